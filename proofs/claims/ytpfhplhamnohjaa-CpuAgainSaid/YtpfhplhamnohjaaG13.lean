/- Layer 20: every instruction by its method. Layer 20: how an instruction gives up; what Decode hands out is in its bounds. No program is in sight here. Layer 19: what Decode hands out is in its bounds. No program is in sight here. -/
import Derived.Test.YtpfhplhamnohjaaUKgm
import Derived.Test.YtpfhplhamnohjaaUKfm
import Derived.Test.YtpfhplhamnohjaaUKnm
import Derived.Test.YtpfhplhamnohjaaUKom
import Derived.Test.YtpfhplhamnohjaaUKjm
import Derived.Test.YtpfhplhamnohjaaG12
import Derived.Test.YtpfhplhamnohjaaUKpm
namespace Go.Proofs.Ytpfhplhamnohjaa
open Go.RowKit

/-- an instruction that is done: the bus' state, and what it comes to (s: the state that it starts to write) -/
def execO {M : Type} (F : BusM M) (m : M) (o s : Sta) (at_ : Int) (i : Ins) : M × Out :=
  if i.op ≤ 16 then (m, outOf (dataS o s at_ i))
  else if i.op ≤ 18 then (m, .ok (putS s i.rd (wideV o at_ i)))
  else if i.op ≤ 24 then (m, .ok (prodS o s at_ i))
  else if i.op ≤ 30 then (m, .ok (putS s i.rd (smallW i.op (getI o at_ i.rm) i.amount)))
  else if i.op ≤ 38 then ((oneR F m o at_ i).1, if (oneR F m o at_ i).2.ok = true then .ok (oneS o s at_ i (oneR F m o at_ i).2.val) else .ab (oneP F m o at_ i))
  else if i.op ≤ 40 then manyO F m o s at_ i
  else if i.op ≤ 44 then (m, .ok (branchS o s at_ i))
  else if i.op ≤ 46 then (m, .ok s)
  else if i.op ≤ 48 then (m, outOf (statS o s at_ i))
  else if i.op = 49 then ((F.mcr m i (getI o at_ i.rd) (userB o)).1, if (F.mcr m i (getI o at_ i.rd) (userB o)).2 = 0 then .ok s else .un)
  else if i.op = 50 then ((F.mrc m i (userB o)).1, if (F.mrc m i (userB o)).2.2 = 0 then .ok (putS s i.rd (F.mrc m i (userB o)).2.1) else .un)
  else (m, .ok s)
theorem done_some {W : World} {g : Nat} {t : TypeId} {o s s' : Sta} {b : Value} {at_ : Int} {i : Ins} {wt : Bool} {e : Ending} {w' : World} (h : e = .returned (.tuple #[]) ∧ Blok w' g t (workCells o s' b at_ i wt) ∧ W.grownBy w' (some g)) : Done W g t o s b at_ i wt (some s') e w' := h
theorem nothing_is (g : Nat) (W : World) : Calls Try.prog 54 #[.pointer (some ⟨g, 0, none⟩)] W fun e w' => e = .returned (.tuple #[]) ∧ W = w' := by
  go_enter Try.func54, Try.ntmps54
  go_wp2
  go_end0
  exact ⟨rfl, rfl⟩
theorem exec_is {T : TypeId} {V : Value} {M : Type} {I : M → (Nat → Prop) → World → Prop} {F : BusM M} {fA fC fR : Nat} (L : BusLaw T V I F fA fC fR) (m : M) (O : Nat → Prop)
    (o s : Sta) (at_ : Int) (i : Ins) (wt : Bool) (g : Nat) (t : TypeId) (ho : OkS o) (hs : OkS s) (hi : InsOk i) (h1 : 1 ≤ i.op) (ha : 25 ≤ i.op → i.op ≤ 30 → i.amount < 4) (W : World) (h : Blok W g t (workCells o s (.iface T V) at_ i wt)) (hI : I m O W) (hg : ¬ O g) (hf : 16 ≤ F.fuel m) :
    Calls Try.prog (methodF i.op) #[.pointer (some ⟨g, 0, none⟩)] W (DoneB I O W g t o s (.iface T V) at_ i wt (execO F m o s at_ i).1 (execO F m o s at_ i).2) := by
  unfold methodF execO
  by_cases h16 : i.op ≤ 16
  · rw [if_pos h16, if_pos h16]
    exact (data_done o s _ at_ i wt g t ho hs hi ⟨h1, h16⟩ W h).mono fun e w' q => doneB_of L hI hg q
  rw [if_neg h16, if_neg h16]
  by_cases h18 : i.op ≤ 18
  · rw [if_pos h18, if_pos h18]
    exact (wide_done o s _ at_ i wt g t ho hs hi W h).mono fun e w' q => doneB_of (r := some _) L hI hg (done_some q)
  rw [if_neg h18, if_neg h18]
  by_cases h24 : i.op ≤ 24
  · rw [if_pos h24, if_pos h24]
    exact (product_done o s _ at_ i wt g t ho hs hi ⟨by omega, h24⟩ W h).mono fun e w' q => doneB_of L hI hg q
  rw [if_neg h24, if_neg h24]
  by_cases h30 : i.op ≤ 30
  · rw [if_pos h30, if_pos h30]
    exact (small_done o s _ at_ i wt g t ho hs hi ⟨by omega, h30⟩ (ha (by omega) h30) W h).mono fun e w' q => doneB_of (r := some _) L hI hg (done_some q)
  rw [if_neg h30, if_neg h30]
  by_cases h38 : i.op ≤ 38
  · rw [if_pos h38, if_pos h38]
    have h8 : i.op = 31 ∨ i.op = 32 ∨ i.op = 33 ∨ i.op = 34 ∨ i.op = 35 ∨ i.op = 36 ∨ i.op = 37 ∨ i.op = 38 := by omega
    have hop : 31 ≤ i.op ∧ i.op ≤ 38 := ⟨by omega, h38⟩
    rcases h8 with e | e | e | e | e | e | e | e
    · exact one_load L m O o s at_ i wt g t ho hs hi (Or.inl e) hop W h hI hg (by omega)
    · exact one_store L m O o s at_ i wt g t ho hs hi (Or.inl e) hop W h hI hg (by omega)
    · exact one_load L m O o s at_ i wt g t ho hs hi (Or.inr (Or.inl e)) hop W h hI hg (by omega)
    · exact one_store L m O o s at_ i wt g t ho hs hi (Or.inr (Or.inl e)) hop W h hI hg (by omega)
    · exact one_load L m O o s at_ i wt g t ho hs hi (Or.inr (Or.inr e)) hop W h hI hg (by omega)
    · exact one_store L m O o s at_ i wt g t ho hs hi (Or.inr (Or.inr e)) hop W h hI hg (by omega)
    · exact one_load37 L m O o s at_ i wt g t ho hs hi e hop W h hI hg (by omega)
    · exact one_load38 L m O o s at_ i wt g t ho hs hi e hop W h hI hg (by omega)
  rw [if_neg h38, if_neg h38]
  by_cases h40 : i.op ≤ 40
  · rw [if_pos h40, if_pos h40]
    by_cases e : i.op = 39
    · exact ldm_done L m O o s at_ i wt g t ho hs hi e W h hI hg hf
    · exact stm_done L m O o s at_ i wt g t ho hs hi (by omega) W h hI hg hf
  rw [if_neg h40, if_neg h40]
  by_cases h44 : i.op ≤ 44
  · rw [if_pos h44, if_pos h44]
    exact (branch_done o s _ at_ i wt g t ho hs hi ⟨by omega, h44⟩ W h).mono fun e w' q => doneB_of (r := some _) L hI hg (done_some q)
  rw [if_neg h44, if_neg h44]
  by_cases h46 : i.op ≤ 46
  · rw [if_pos h46, if_pos h46]
    exact (nothing_is g W).mono fun e w' q => doneB_of (r := some s) L hI hg (done_some ⟨q.1, q.2 ▸ h, q.2 ▸ World.grownBy.refl _ _⟩)
  rw [if_neg h46, if_neg h46]
  by_cases h48 : i.op ≤ 48
  · rw [if_pos h48, if_pos h48]
    by_cases e : i.op = 47
    · exact (mrs_done o s _ at_ i wt g t ho hs hi e W h).mono fun e w' q => doneB_of L hI hg q
    · exact (msr_done o s _ at_ i wt g t ho hi (by omega) W h).mono fun e w' q => doneB_of L hI hg q
  rw [if_neg h48, if_neg h48]
  by_cases h50 : i.op ≤ 50
  · rw [if_pos h50]
    by_cases e : i.op = 49
    · rw [if_pos e]
      exact mcr_done L m O o s at_ i wt g t ho hi e W h hI hg (by omega)
    · rw [if_neg e, if_pos (show i.op = 50 by omega)]
      exact mrc_done L m O o s at_ i wt g t ho hs hi (by omega) W h hI hg (by omega)
  rw [if_neg h50, if_neg (show ¬ i.op = 49 by omega), if_neg (show ¬ i.op = 50 by omega)]
  exact (nothing_is g W).mono fun e w' q => doneB_of (r := some s) L hI hg (done_some ⟨q.1, q.2 ▸ h, q.2 ▸ World.grownBy.refl _ _⟩)
end Go.Proofs.Ytpfhplhamnohjaa
namespace Go.Proofs.Ytpfhplhamnohjaa
open Go.RowKit

theorem mrun_ab {M : Type} (F : BusM M) (m : M) (o : Sta) (at_ : Int) (i : Ins) : ∀ k e, mrun F m o at_ i k = .error e → ∃ kind va n v p y, e.2 = abortP kind va n v p y := by
  intro k
  induction k with
  | zero => intro e h; unfold mrun at h; cases h
  | succ k ih =>
    intro e h
    unfold mrun at h
    cases q : mrun F m o at_ i k with
    | error e' =>
      rw [q] at h
      dsimp only at h
      cases h
      exact ih _ q
    | ok st =>
      rw [q] at h
      dsimp only at h
      unfold mstep at h
      by_cases hz : bt16 i.list k = 0
      · rw [if_pos hz] at h; cases h
      rw [if_neg hz] at h
      dsimp only at h
      by_cases ho : (F.acc st.1 (if i.op = 39 then 2 else 3) st.2.1 4 (if i.op = 39 then 0 else getI o at_ k) (!userB o)).2.ok = true
      · rw [if_pos ho] at h; cases h
      · rw [if_neg ho] at h; cases h; exact ⟨_, _, _, _, _, _, rfl⟩
theorem exec_ab {M : Type} (F : BusM M) (m : M) (o s : Sta) (at_ : Int) (i : Ins) (pe : List PanicEntry) (h : (execO F m o s at_ i).2 = .ab pe) : ∃ kind va n v p y, pe = abortP kind va n v p y := by
  have oo : ∀ r : Option Sta, outOf r ≠ .ab pe := fun r => by cases r <;> simp [outOf]
  unfold execO at h
  by_cases h16 : i.op ≤ 16
  · rw [if_pos h16] at h; exact absurd h (oo _)
  rw [if_neg h16] at h
  by_cases h18 : i.op ≤ 18
  · rw [if_pos h18] at h; cases h
  rw [if_neg h18] at h
  by_cases h24 : i.op ≤ 24
  · rw [if_pos h24] at h; cases h
  rw [if_neg h24] at h
  by_cases h30 : i.op ≤ 30
  · rw [if_pos h30] at h; cases h
  rw [if_neg h30] at h
  by_cases h38 : i.op ≤ 38
  · rw [if_pos h38] at h
    dsimp only at h
    split at h
    · cases h
    · cases h; exact ⟨_, _, _, _, _, _, rfl⟩
  rw [if_neg h38] at h
  by_cases h40 : i.op ≤ 40
  · rw [if_pos h40] at h
    unfold manyO at h
    cases q : mrun F m o at_ i 16 with
    | error e =>
      rw [q] at h
      dsimp only at h
      cases h
      exact mrun_ab F m o at_ i 16 _ q
    | ok st => rw [q] at h; cases h
  rw [if_neg h40] at h
  by_cases h44 : i.op ≤ 44
  · rw [if_pos h44] at h; cases h
  rw [if_neg h44] at h
  by_cases h46 : i.op ≤ 46
  · rw [if_pos h46] at h; cases h
  rw [if_neg h46] at h
  by_cases h48 : i.op ≤ 48
  · rw [if_pos h48] at h; exact absurd h (oo _)
  rw [if_neg h48] at h
  by_cases h49 : i.op = 49
  · rw [if_pos h49] at h
    dsimp only at h
    split at h <;> cases h
  rw [if_neg h49] at h
  by_cases h50 : i.op = 50
  · rw [if_pos h50] at h
    dsimp only at h
    split at h <;> cases h
  rw [if_neg h50] at h
  cases h
end Go.Proofs.Ytpfhplhamnohjaa
namespace Go.Proofs.Ytpfhplhamnohjaa
open Go.RowKit

structure InsGood (i : Ins) : Prop extends InsOk i where
  op : 0 ≤ i.op ∧ i.op < 53
  am : 25 ≤ i.op → i.op ≤ 30 → i.amount < 4
structure WordF (w : Int) : Prop where
  a : 0 ≤ fld w 19 16 ∧ fld w 19 16 < 16
  b : 0 ≤ fld w 15 12 ∧ fld w 15 12 < 16
  c : 0 ≤ fld w 11 8 ∧ fld w 11 8 < 16
  d : 0 ≤ fld w 3 0 ∧ fld w 3 0 < 16
  e : 0 ≤ fld w 11 7 ∧ fld w 11 7 < 32
  f : 0 ≤ fld w 6 5 ∧ fld w 6 5 < 4
  g : 0 ≤ fld w 11 10 ∧ fld w 11 10 < 4
  h : 0 ≤ fld w 11 0 ∧ fld w 11 0 < 4096
  k : 0 ≤ fld w 24 21 ∧ fld w 24 21 < 16
  l : 0 ≤ fld w 23 0 ∧ fld w 23 0 < 16777216
  m : 0 ≤ fld w 24 24 ∧ fld w 24 24 < 2
  n : 0 ≤ fld w 20 20 ∧ fld w 20 20 < 2
theorem wordF_is (w : Int) : WordF w := by
  constructor
  · simpa using fld_le w 19 16
  · simpa using fld_le w 15 12
  · simpa using fld_le w 11 8
  · simpa using fld_le w 3 0
  · simpa using fld_le w 11 7
  · simpa using fld_le w 6 5
  · simpa using fld_le w 11 10
  · simpa using fld_le w 11 0
  · simpa using fld_le w 24 21
  · simpa using fld_le w 23 0
  · simpa using fld_le w 24 24
  · simpa using fld_le w 20 20
theorem immI_u (w : Int) (hi lo : Nat) : 0 ≤ immI w hi lo ∧ immI w hi lo < 4294967296 := by unfold immI; omega
theorem brI_u (w : Int) : 0 ≤ brI w ∧ brI w < 4294967296 := by unfold brI; omega
/-- what is still bare of shift and amount -/
structure InsBare (i : Ins) : Prop extends InsOk i where
  am0 : i.amount = 0
  op0 : i.op = 0
theorem bare_z (c : Int) : InsBare { zIns with cond := c } := by
  constructor
  · constructor <;> simp [zIns]
  · rfl
  · rfl
theorem good_z : InsGood zIns := by
  constructor
  · constructor <;> simp [zIns]
  · simp [zIns]
  · simp [zIns]
theorem data_good (w : Int) (i : Ins) (h : InsOk i) : InsGood (dataI w i) := by
  have F := wordF_is w
  unfold dataI; dsimp only; split
  · exact good_z
  · exact ⟨⟨F.b, F.a, h.rm, h.rs, h.ra, h.imm, h.shift, h.amount, h.list⟩, by have := F.k; dsimp only; omega, fun q => by have := F.k; dsimp only at q ⊢; omega⟩
theorem prodOp_u (n : Int) : 0 ≤ productOp n ∧ productOp n < 25 := by
  unfold productOp; (repeat' split) <;> omega
theorem product_good (w : Int) (i : Ins) (h : InsOk i) : InsGood (productI w i) := by
  have F := wordF_is w
  have P := prodOp_u (fld w 23 21)
  unfold productI; dsimp only; split
  · exact good_z
  split
  · exact good_z
  · exact ⟨⟨F.a, h.rn, F.d, F.c, F.b, h.imm, h.shift, h.amount, h.list⟩, by dsimp only; omega, fun q => by dsimp only at q ⊢; omega⟩
theorem halfOp_u (l : Bool) (n : Int) : halfOp l n = 0 ∨ (35 ≤ halfOp l n ∧ halfOp l n < 39) := by
  unfold halfOp; (repeat' split) <;> omega
theorem halves_good (w : Int) (i : Ins) (h : InsOk i) : InsGood (halvesI w i) := by
  have F := wordF_is w
  have P := halfOp_u (bt w 20) (fld w 6 5)
  have J := immI_u w 11 8
  unfold halvesI; dsimp only; split
  · split
    · exact good_z
    · exact ⟨⟨F.b, F.a, h.rm, h.rs, h.ra, J, h.shift, h.amount, h.list⟩, by dsimp only; omega, fun q q' => by dsimp only at q q' ⊢; omega⟩
  · split
    · exact good_z
    split
    · exact good_z
    · exact ⟨⟨F.b, F.a, F.d, h.rs, h.ra, h.imm, h.shift, h.amount, h.list⟩, by dsimp only; omega, fun q q' => by dsimp only at q q' ⊢; omega⟩
theorem special_good (w : Int) (i : Ins) (h : InsBare i) : InsGood (specialI w i) := by
  have F := wordF_is w
  have J := immI_u w 19 8
  have A := h.am0
  unfold specialI
  split
  · exact ⟨⟨F.b, h.rn, h.rm, h.rs, h.ra, h.imm, h.shift, h.amount, h.list⟩, by dsimp only; omega, fun q q' => by dsimp only at q q' ⊢; omega⟩
  split
  · exact ⟨⟨h.rd, h.rn, F.d, h.rs, h.ra, h.imm, h.shift, by have := F.a; dsimp only; omega, h.list⟩, by dsimp only; omega, fun q q' => by dsimp only at q q' ⊢; omega⟩
  split
  · exact ⟨⟨h.rd, h.rn, F.d, h.rs, h.ra, h.imm, h.shift, h.amount, h.list⟩, by dsimp only; omega, fun q q' => by dsimp only at q q' ⊢; omega⟩
  split
  · exact ⟨⟨h.rd, h.rn, F.d, h.rs, h.ra, h.imm, h.shift, h.amount, h.list⟩, by dsimp only; omega, fun q q' => by dsimp only at q q' ⊢; omega⟩
  split
  · exact ⟨⟨h.rd, h.rn, h.rm, h.rs, h.ra, J, h.shift, h.amount, h.list⟩, by dsimp only; omega, fun q q' => by dsimp only at q q' ⊢; omega⟩
  split
  · exact ⟨⟨F.b, h.rn, F.d, h.rs, h.ra, h.imm, h.shift, h.amount, h.list⟩, by dsimp only; omega, fun q q' => by dsimp only at q q' ⊢; omega⟩
  · exact good_z
theorem first_good (w : Int) (i : Ins) (h : InsBare i) : InsGood (firstI w i) := by
  have F := wordF_is w
  unfold firstI; dsimp only
  split
  · exact product_good w i h.toInsOk
  split
  · exact halves_good w i h.toInsOk
  split
  · exact special_good w i h
  split
  · exact data_good w _ ⟨h.rd, h.rn, F.d, F.c, h.ra, h.imm, F.f, h.amount, h.list⟩
  · exact data_good w _ ⟨h.rd, h.rn, F.d, h.rs, h.ra, h.imm, F.f, F.e, h.list⟩
theorem second_good (w : Int) (i : Ins) (h : InsBare i) : InsGood (secondI w i) := by
  have F := wordF_is w
  have A := h.am0
  have H : 0 ≤ fld w 11 0 ∧ fld w 11 0 < 4294967296 := by have := F.h; omega
  have B := bits32 .or (fld w 11 0) (fld w 19 16 * 4096)
  unfold secondI; dsimp only
  split
  · exact data_good w _ ⟨h.rd, h.rn, h.rm, h.rs, h.ra, H, h.shift, h.amount, h.list⟩
  split
  · exact ⟨⟨F.b, h.rn, h.rm, h.rs, h.ra, B, h.shift, h.amount, h.list⟩, by dsimp only; omega, fun q q' => by dsimp only at q q' ⊢; omega⟩
  split
  · exact ⟨⟨F.b, h.rn, h.rm, h.rs, h.ra, B, h.shift, h.amount, h.list⟩, by dsimp only; omega, fun q q' => by dsimp only at q q' ⊢; omega⟩
  split
  · exact ⟨⟨h.rd, h.rn, h.rm, h.rs, h.ra, H, h.shift, h.amount, h.list⟩, by dsimp only; omega, fun q q' => by dsimp only at q q' ⊢; omega⟩
  split
  · exact ⟨⟨h.rd, h.rn, h.rm, h.rs, h.ra, by dsimp only; omega, h.shift, h.amount, h.list⟩, by dsimp only; omega, fun q q' => by dsimp only at q q' ⊢; omega⟩
  split
  · exact ⟨⟨h.rd, h.rn, h.rm, h.rs, h.ra, H, h.shift, by have := F.a; dsimp only; omega, h.list⟩, by dsimp only; omega, fun q q' => by dsimp only at q q' ⊢; omega⟩
  · exact good_z
theorem singleOp_u (n : Int) : 31 ≤ singleOp n ∧ singleOp n < 35 := by
  unfold singleOp; (repeat' split) <;> omega
theorem single_good (w : Int) (i : Ins) (h : InsOk i) : InsGood (singleI w i) := by
  have F := wordF_is w
  have P := singleOp_u (fld w 22 22 * 2 + fld w 20 20)
  have H : 0 ≤ fld w 11 0 ∧ fld w 11 0 < 4294967296 := by have := F.h; omega
  unfold singleI; dsimp only
  split
  · exact ⟨⟨F.b, F.a, h.rm, h.rs, h.ra, H, h.shift, h.amount, h.list⟩, by dsimp only; omega, fun q q' => by dsimp only at q q' ⊢; omega⟩
  · exact ⟨⟨F.b, F.a, F.d, h.rs, h.ra, h.imm, F.f, F.e, h.list⟩, by dsimp only; omega, fun q q' => by dsimp only at q q' ⊢; omega⟩
theorem smallI_u (n : Int) : 0 ≤ smallI n ∧ smallI n < 31 := by
  unfold smallI; (repeat' split) <;> omega
theorem media_good (w : Int) (i : Ins) (h : InsBare i) : InsGood (mediaI w i) := by
  have F := wordF_is w
  have A := h.am0
  have P := smallI_u (fld w 22 20)
  unfold mediaI; dsimp only
  split
  · exact ⟨⟨F.b, h.rn, F.d, h.rs, h.ra, h.imm, h.shift, h.amount, h.list⟩, by dsimp only; omega, fun q q' => by dsimp only at q q' ⊢; omega⟩
  split
  · exact ⟨⟨F.b, h.rn, F.d, h.rs, h.ra, h.imm, h.shift, by have := F.g; dsimp only; omega, h.list⟩, by dsimp only; omega, fun q q' => F.g.2⟩
  · exact good_z
theorem rest_good (w : Int) (i : Ins) (h : InsBare i) : InsGood (restI w i) := by
  have F := wordF_is w
  have A := h.am0
  have B := brI_u w
  have L : 0 ≤ w % 65536 ∧ w % 65536 < 65536 := by omega
  have M := F.m
  have N := F.n
  have H : 0 ≤ fld w 23 0 ∧ fld w 23 0 < 4294967296 := by have := F.l; omega
  unfold restI; dsimp only
  split
  · split
    · exact good_z
    · exact ⟨⟨h.rd, F.a, h.rm, h.rs, h.ra, h.imm, h.shift, h.amount, L⟩, by dsimp only; split <;> omega, fun q q' => by dsimp only at q q' ⊢; omega⟩
  split
  · exact ⟨⟨h.rd, h.rn, h.rm, h.rs, h.ra, B, h.shift, h.amount, h.list⟩, by dsimp only; omega, fun q q' => by dsimp only at q q' ⊢; omega⟩
  split
  · split
    · exact good_z
    · exact ⟨⟨F.b, h.rn, h.rm, h.rs, h.ra, h.imm, h.shift, h.amount, h.list⟩, by dsimp only; omega, fun q q' => by dsimp only at q q' ⊢; omega⟩
  split
  · exact ⟨⟨h.rd, h.rn, h.rm, h.rs, h.ra, H, h.shift, h.amount, h.list⟩, by dsimp only; omega, fun q q' => by dsimp only at q q' ⊢; omega⟩
  · exact good_z
theorem says_good (w : Int) : InsGood (saysI w) := by
  have h := bare_z (fld w 31 28)
  unfold saysI; dsimp only
  split
  · exact first_good w _ h
  split
  · exact second_good w _ h
  split
  · split
    · exact media_good w _ h
    · exact single_good w _ h.toInsOk
  split
  · exact single_good w _ h.toInsOk
  · exact rest_good w _ h
theorem decode_good (w : Int) : InsGood (decodeI w).1 := by
  unfold decodeI
  split
  · exact says_good w
  · exact good_z
theorem decode_op (w : Int) (h : (decodeI w).2 = true) : 1 ≤ (decodeI w).1.op := by
  have g := (says_good w).op
  unfold decodeI at h ⊢
  by_cases q : mayB (saysI w) = true
  · rw [if_pos q]
    dsimp only
    rcases Int.lt_or_le (saysI w).op 1 with k | k
    · have e : (saysI w).op = 0 := by omega
      unfold mayB at q
      rw [if_pos (Or.inr e)] at q
      cases q
    · exact k
  · rw [if_neg q] at h; cases h
end Go.Proofs.Ytpfhplhamnohjaa
