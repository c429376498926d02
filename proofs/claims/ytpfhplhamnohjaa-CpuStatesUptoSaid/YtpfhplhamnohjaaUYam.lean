/- Layer 20: each step leaves a state one (plain). -/
import Derived.Test.YtpfhplhamnohjaaG21
namespace Go.Proofs.Ytpfhplhamnohjaa
open Go.RowKit

/-- a state: a mode that is one, a PC of words, no bit that is not kept, and no SPSR of a user's -/
structure IL (s : Sta) : Prop where
  mode : (bankB (s 29 % 32)).2 = true
  pc : s 28 % 4 = 0
  own : bits .andNot .u32 (s 29) 4026531999 = 0
  z : s 23 = 0
  k : ∀ i, 23 < i → i < 28 → bits .andNot .u32 (s i) 4026531999 = 0
theorem isL_iff (s : Sta) (hs : OkS s) : isL s = true ↔ IL s := by
  have p : bits .and .u32 (s 28) 3 = s 28 % 4 := and32 2 (by decide) (s 28) (hs 28 (by omega)).1 (by simpa using (hs 28 (by omega)).2)
  unfold isL
  simp only [Bool.and_eq_true, beq_iff_eq, p]
  constructor
  · rintro ⟨⟨⟨⟨⟨⟨⟨⟨a, b⟩, c⟩, d⟩, e⟩, f⟩, g⟩, h⟩, i⟩
    refine ⟨a, b, c, d, fun j h1 h2 => ?_⟩
    have q : j = 24 ∨ j = 25 ∨ j = 26 ∨ j = 27 := by omega
    rcases q with rfl | rfl | rfl | rfl <;> assumption
  · rintro ⟨a, b, c, d, e⟩
    exact ⟨⟨⟨⟨⟨⟨⟨⟨a, b⟩, c⟩, d⟩, by rw [d]; decide⟩, e 24 (by omega) (by omega)⟩, e 25 (by omega) (by omega)⟩, e 26 (by omega) (by omega)⟩, e 27 (by omega) (by omega)⟩
theorem il_low {s : Sta} (h : IL s) (i : Nat) (v : Int) (hi : i < 23) : IL (set s i v) := by
  have e : ∀ j, 23 ≤ j → set s i v j = s j := fun j q => by unfold set; rw [if_neg (by omega)]
  exact ⟨by rw [e 29 (by omega)]; exact h.mode, by rw [e 28 (by omega)]; exact h.pc, by rw [e 29 (by omega)]; exact h.own, by rw [e 23 (by omega)]; exact h.z, fun j a b => by rw [e j (by omega)]; exact h.k j a b⟩
theorem il_pc {s : Sta} (h : IL s) (v : Int) (hv : v % 4 = 0) : IL (set s 28 v) := by
  have e : ∀ j, j ≠ 28 → set s 28 v j = s j := fun j q => by unfold set; rw [if_neg q]
  exact ⟨by rw [e 29 (by omega)]; exact h.mode, by unfold set; rw [if_pos rfl]; exact hv, by rw [e 29 (by omega)]; exact h.own, by rw [e 23 (by omega)]; exact h.z, fun j a b => by rw [e j (by omega)]; exact h.k j a b⟩
theorem il_cpsr {s : Sta} (h : IL s) (v : Int) (hm : (bankB (v % 32)).2 = true) (hk : bits .andNot .u32 v 4026531999 = 0) : IL (set s 29 v) := by
  have e : ∀ j, j ≠ 29 → set s 29 v j = s j := fun j q => by unfold set; rw [if_neg q]
  have e2 : set s 29 v 29 = v := by unfold set; rw [if_pos rfl]
  exact ⟨by rw [e2]; exact hm, by rw [e 28 (by omega)]; exact h.pc, by rw [e2]; exact hk, by rw [e 23 (by omega)]; exact h.z, fun j a b => by rw [e j (by omega)]; exact h.k j a b⟩
theorem il_spsr {s : Sta} (h : IL s) (i : Nat) (v : Int) (h1 : 23 < i) (h2 : i < 28) (hk : bits .andNot .u32 v 4026531999 = 0) : IL (set s i v) := by
  have e : ∀ j, j ≠ i → set s i v j = s j := fun j q => by unfold set; rw [if_neg q]
  refine ⟨by rw [e 29 (by omega)]; exact h.mode, by rw [e 28 (by omega)]; exact h.pc, by rw [e 29 (by omega)]; exact h.own, by rw [e 23 (by omega)]; exact h.z, fun j a b => ?_⟩
  by_cases q : j = i
  · subst q; unfold set; rw [if_pos rfl]; exact hk
  · rw [e j q]; exact h.k j a b
theorem and3_mod (v : Int) : and3 v % 4 = 0 := by
  unfold and3
  rw [bv_not]
  have e : (BitVec.ofInt 32 v &&& ~~~ 3#32).setWidth 2 = 0#2 := by
    rw [BitVec.setWidth_and]
    rw [show (~~~ 3#32).setWidth 2 = 0#2 by decide, BitVec.and_zero]
  have n := congrArg BitVec.toNat e
  rw [BitVec.toNat_setWidth] at n
  rw [show BitVec.ofInt 32 3 = 3#32 from rfl]
  simp only [BitVec.toNat_ofNat] at n
  omega
theorem il_put {s : Sta} (h : IL s) (n v : Int) (hn : n < 16) : IL (putS s n v) := by
  unfold putS
  split
  · exact il_pc h _ (and3_mod v)
  · refine il_low h _ _ ?_
    have b := bankW_lt (s 29)
    unfold regO
    split
    · omega
    split
    · omega
    split <;> omega
theorem keep_or (A B : BitVec 32) (C : BitVec 32) (h : A &&& ~~~ C = 0#32) (k : B &&& ~~~ C = 0#32) : (A ||| B) &&& ~~~ C = 0#32 := by
  rw [BitVec.and_comm, BitVec.and_or_distrib_left, BitVec.and_comm, h, BitVec.and_comm, k, BitVec.or_self]
theorem nk_iff (x c : Int) : bits .andNot .u32 x c = 0 ↔ BitVec.ofInt 32 x &&& ~~~ BitVec.ofInt 32 c = 0#32 := by
  rw [bv_not]
  constructor
  · intro h
    apply BitVec.eq_of_toNat_eq
    have : (BitVec.ofInt 32 x &&& ~~~ BitVec.ofInt 32 c).toNat = 0 := by omega
    simpa using this
  · intro h; rw [h]; rfl
theorem nk_or {x y : Int} (h : bits .andNot .u32 x 4026531999 = 0) (k : bits .andNot .u32 y 4026531999 = 0) : bits .andNot .u32 (bits .or .u32 x y) 4026531999 = 0 := by
  rw [nk_iff] at h k ⊢
  rw [bv_or, bv_back]
  exact keep_or _ _ _ h k
theorem nk_and {x y : Int} (h : bits .andNot .u32 x 4026531999 = 0 ∨ bits .andNot .u32 y 4026531999 = 0) : bits .andNot .u32 (bits .and .u32 x y) 4026531999 = 0 := by
  rw [nk_iff, nk_iff] at h
  rw [nk_iff, bv_and, bv_back]
  rcases h with h | h
  · rw [BitVec.and_assoc, BitVec.and_comm (BitVec.ofInt 32 y), ← BitVec.and_assoc, h, BitVec.zero_and]
  · rw [BitVec.and_assoc, h, BitVec.and_zero]
theorem nk_not {x y : Int} (h : bits .andNot .u32 x 4026531999 = 0) : bits .andNot .u32 (bits .andNot .u32 x y) 4026531999 = 0 := by
  rw [nk_iff] at h
  rw [nk_iff, bv_not, bv_back]
  rw [BitVec.and_assoc, BitVec.and_comm (~~~ BitVec.ofInt 32 y), ← BitVec.and_assoc, h, BitVec.zero_and]
theorem il_mark {s : Sta} (h : IL s) (hs : OkS s) (f : Flg) : IL (markS s f) := by
  unfold markS
  refine il_cpsr h _ ?_ (nk_or (nk_not h.own) ?_)
  · have l : bits .or .u32 (bits .andNot .u32 (s 29) 4026531840) (wordF f) % 32 = s 29 % 32 := by
      have l2 := low28 (s 29) (wordF f) (hs 29 (by omega)) (wordF_low f).1 (wordF_low f).2
      omega
    rw [l]; exact h.mode
  · unfold wordF
    split <;> split <;> split <;> split <;> decide
theorem il_msrB (i : Ins) : bits .andNot .u32 (msrB i) 4026531999 = 0 := by
  unfold msrB
  split <;> split <;> decide
theorem il_msrX {o v m : Int} (h : bits .andNot .u32 o 4026531999 = 0) (k : bits .andNot .u32 m 4026531999 = 0) : bits .andNot .u32 (msrX o v m) 4026531999 = 0 := by
  unfold msrX
  exact nk_or (nk_not h) (nk_and (.inr k))
theorem il_stat {o s s' : Sta} (hs : IL s) (e29 : s 29 = o 29) (at_ : Int) (i : Ins) (hi : InsOk i) (h : statS o s at_ i = some s') : IL s' := by
  have b := own_lt o
  unfold statS at h
  split at h
  · split at h
    · split at h
      · cases h
      · rw [← Option.some.inj h]; exact il_put hs _ _ hi.rd.2
    · rw [← Option.some.inj h]; exact il_put hs _ _ hi.rd.2
  split at h
  · split at h
    · cases h
    · rename_i q
      rw [← Option.some.inj h]; exact il_spsr hs _ _ (by omega) (by omega) (il_msrX (hs.k _ (by omega) (by omega)) (il_msrB i))
  · have M : bits .andNot .u32 (if userB o then bits .and .u32 (msrB i) 4026531840 else msrB i) 4026531999 = 0 := by
      split
      · exact nk_and (.inl (il_msrB i))
      · exact il_msrB i
    dsimp only at h
    have key : ∀ v : Int, bits .andNot .u32 v 4026531999 = 0 → (if (bankB (v % 32)).2 = true then some (set s 29 v) else none) = some s' → IL s' := fun v hv e => by
      split at e
      · rename_i q; rw [← Option.some.inj e]; exact il_cpsr hs _ q hv
      · cases e
    exact key _ (il_msrX (by rw [← e29]; exact hs.own) M) h
theorem il_back {s : Sta} (h : IL s) (hb : backB s = true) (v : Int) : IL (backT s v) := by
  unfold backB at hb
  have b := bankW_lt (s 29)
  simp only [Bool.and_eq_true, Bool.not_eq_true', beq_eq_false_iff_ne, ne_eq] at hb
  unfold backT
  exact il_pc (il_cpsr h _ hb.2 (h.k _ (by omega) (by omega))) _ (and3_mod v)
theorem il_data {o s s' : Sta} (h : IL s) (hs : OkS s) (ho : OkS o) (at_ : Int) (i : Ins) (hi : InsOk i) (e : dataS o s at_ i = some s') : IL s' := by
  unfold dataS at e
  split at e
  · split at e
    · rename_i q; rw [← Option.some.inj e]; exact il_back h q _
    · cases e
  · rw [← Option.some.inj e]
    have P : IL (if doB i.op then putS s i.rd (dataW o at_ i) else s) ∧ OkS (if doB i.op then putS s i.rd (dataW o at_ i) else s) := by
      split
      · exact ⟨il_put h _ _ hi.rd.2, okS_put hs _ (dataW_u o at_ i ho hi)⟩
      · exact ⟨h, hs⟩
    split
    · exact il_mark P.1 P.2 _
    · exact P.1
theorem il_prod {s : Sta} (h : IL s) (hs : OkS s) (o : Sta) (at_ : Int) (i : Ins) (hi : InsOk i) (ha : i.ra < 16) : IL (prodS o s at_ i) := by
  have L := fun a b c d => longI_u i.op a b c d
  unfold prodS
  split
  · dsimp only
    split
    · exact il_mark (il_put h _ _ hi.rd.2) (okS_put hs _ (L _ _ _ _).2) _
    · exact il_put h _ _ hi.rd.2
  · dsimp only
    split
    · exact il_mark (il_put (il_put h _ _ ha) _ _ hi.rd.2) (okS_put (okS_put hs _ (L _ _ _ _).2) _ (L _ _ _ _).1) _
    · exact il_put (il_put h _ _ ha) _ _ hi.rd.2
theorem il_one {s : Sta} (h : IL s) (o : Sta) (at_ : Int) (i : Ins) (hi : InsOk i) (x : Int) : IL (oneS o s at_ i x) := by
  have B : IL (oneB o s at_ i) := by
    unfold oneB
    split
    · exact il_put h _ _ hi.rn.2
    · exact h
  unfold oneS
  split
  · exact B
  · exact il_put B _ _ hi.rd.2
theorem il_puts {s : Sta} (h : IL s) (i : Ins) (vs : Nat → Int) : ∀ k, k ≤ 16 → IL (mputs s i vs k)
  | 0, _ => h
  | k + 1, q => by
    have p := il_puts h i vs k (by omega)
    unfold mputs
    split
    · exact il_put p _ _ (by omega)
    · exact p
theorem il_many {s : Sta} (h : IL s) (o : Sta) (at_ : Int) (i : Ins) (hi : InsOk i) (vs : Nat → Int) : IL (mputs (manyW o s at_ i) i vs 16) := by
  refine il_puts ?_ i vs 16 (Nat.le_refl _)
  unfold manyW
  split
  · exact il_put h _ _ hi.rn.2
  · exact h
theorem il_branch {s : Sta} (h : IL s) (o : Sta) (at_ : Int) (i : Ins) : IL (branchS o s at_ i) := by
  unfold branchS
  refine il_put ?_ _ _ (by omega)
  split
  · exact il_put h _ _ (by omega)
  · exact h
theorem exec_il {M : Type} (F : BusM M) (m : M) (o s : Sta) (at_ : Int) (i : Ins) (hl : IL s) (hs : OkS s) (ho : OkS o) (e29 : s 29 = o 29) (hi : InsOk i) (s' : Sta) (h : (execO F m o s at_ i).2 = .ok s') : IL s' := by
  unfold execO at h
  have oo : ∀ r : Option Sta, outOf r = .ok s' → r = some s' := fun r e => by
    cases r with
    | none => cases e
    | some x => simp only [outOf, Out.ok.injEq] at e; rw [e]
  by_cases h16 : i.op ≤ 16
  · rw [if_pos h16] at h; exact il_data hl hs ho at_ i hi (oo _ h)
  rw [if_neg h16] at h
  by_cases h18 : i.op ≤ 18
  · rw [if_pos h18] at h; rw [← Out.ok.inj h]; exact il_put hl _ _ hi.rd.2
  rw [if_neg h18] at h
  by_cases h24 : i.op ≤ 24
  · rw [if_pos h24] at h; rw [← Out.ok.inj h]; exact il_prod hl hs _ _ _ hi hi.ra.2
  rw [if_neg h24] at h
  by_cases h30 : i.op ≤ 30
  · rw [if_pos h30] at h; rw [← Out.ok.inj h]; exact il_put hl _ _ hi.rd.2
  rw [if_neg h30] at h
  by_cases h38 : i.op ≤ 38
  · rw [if_pos h38] at h
    dsimp only at h
    split at h
    · rw [← Out.ok.inj h]; exact il_one hl _ _ _ hi _
    · cases h
  rw [if_neg h38] at h
  by_cases h40 : i.op ≤ 40
  · rw [if_pos h40] at h
    unfold manyO at h
    cases q : mrun F m o at_ i 16 with
    | error e => rw [q] at h; cases h
    | ok st =>
      rw [q] at h
      rw [← Out.ok.inj h]
      exact il_many hl _ _ _ hi _
  rw [if_neg h40] at h
  by_cases h44 : i.op ≤ 44
  · rw [if_pos h44] at h; rw [← Out.ok.inj h]; exact il_branch hl _ _ _
  rw [if_neg h44] at h
  by_cases h46 : i.op ≤ 46
  · rw [if_pos h46] at h; rw [← Out.ok.inj h]; exact hl
  rw [if_neg h46] at h
  by_cases h48 : i.op ≤ 48
  · rw [if_pos h48] at h; exact il_stat hl e29 at_ i hi (oo _ h)
  rw [if_neg h48] at h
  by_cases h49 : i.op = 49
  · rw [if_pos h49] at h
    dsimp only at h
    split at h
    · rw [← Out.ok.inj h]; exact hl
    · cases h
  rw [if_neg h49] at h
  by_cases h50 : i.op = 50
  · rw [if_pos h50] at h
    dsimp only at h
    split at h
    · rw [← Out.ok.inj h]; exact il_put hl _ _ hi.rd.2
    · cases h
  rw [if_neg h50] at h
  rw [← Out.ok.inj h]; exact hl
theorem il_ent {s : Sta} (h : IL s) (m b v : Int) (hm : m = 18 ∨ m = 19 ∨ m = 23 ∨ m = 27) (hv : v % 4 = 0) : IL (entS s m b v) := by
  have B : 1 ≤ (bankB m).1 ∧ (bankB m).1 ≤ 4 := by rcases hm with rfl | rfl | rfl | rfl <;> decide
  have M : (bankB m).2 = true ∧ m % 32 = m ∧ bits .andNot .u32 m 4026531999 = 0 ∧ BitVec.ofInt 32 m &&& 31#32 = BitVec.ofInt 32 m ∧ ((BitVec.ofInt 32 m).toNat : Int) = m := by rcases hm with rfl | rfl | rfl | rfl <;> decide
  unfold entS
  refine il_pc (il_cpsr (il_low (il_spsr h _ _ (by omega) (by omega) h.own) _ _ (by omega)) _ ?_ (nk_or (nk_or (nk_not h.own) M.2.2.1) (by decide))) v hv
  have q : bits .or .u32 (bits .or .u32 (bits .andNot .u32 (s 29) 31) m) 128 % 32 = m := by
    rw [bv_or, bv_or, bv_not, bv_back, bv_back]
    have e : ((((BitVec.ofInt 32 (s 29) &&& ~~~ 31#32) ||| BitVec.ofInt 32 m) ||| 128#32).setWidth 5) = (BitVec.ofInt 32 m).setWidth 5 := by
      rw [BitVec.setWidth_or, BitVec.setWidth_or, BitVec.setWidth_and, show (~~~ 31#32).setWidth 5 = 0#5 by decide, show (128#32).setWidth 5 = 0#5 by decide, BitVec.and_zero, BitVec.zero_or, BitVec.or_zero]
    have n := congrArg BitVec.toNat e
    rw [BitVec.toNat_setWidth, BitVec.toNat_setWidth] at n
    rw [show BitVec.ofInt 32 31 = 31#32 from rfl, show BitVec.ofInt 32 128 = 128#32 from rfl]
    omega
  rw [q]; exact M.1
theorem step_il {M : Type} (F : BusM M) (m : M) (s : Sta) (on : Bool) (hl : IL s) (hs : OkS s) : IL (stepO F m s on).2.1 := by
  have h4 : ∀ x : Int, 0 ≤ (x + 4) % 4294967296 ∧ (x + 4) % 4294967296 < 4294967296 := fun x => by omega
  have p := hl.pc
  unfold stepO
  split
  · exact il_ent hl _ _ _ (by omega) (by decide)
  dsimp only
  split
  · exact il_ent hl _ _ _ (by omega) (by decide)
  unfold tookO
  split
  · exact il_ent hl _ _ _ (by omega) (by decide)
  split
  · exact il_pc hl _ (by omega)
  split
  · exact il_ent hl _ _ _ (by omega) (by decide)
  split
  · exact il_ent hl _ _ _ (by omega) (by decide)
  split
  · exact hl
  dsimp only
  unfold doesS
  split
  · rename_i s' q
    exact exec_il F _ _ _ _ _ (il_pc hl _ (by omega)) (okS_set hs _ (h4 _)) hs (by unfold set; rw [if_neg (by omega)]) (decode_good _).toInsOk _ q
  · exact il_ent hl _ _ _ (by omega) (by decide)
  · exact il_ent hl _ _ _ (by omega) (by decide)
theorem il_backR {s : Sta} (h : IL s) (v : Int) : IL (backR s v) := by
  unfold backR
  split
  · rename_i q; exact il_back h q v
  · exact h
theorem il_setV {s : Sta} (h : IL s) (n v : Int) : IL (setV s n v) := by
  unfold setV
  split
  · by_cases q : n = 15
    · rw [if_pos q]
      have r : regO (s 29) n = 28 := by subst q; unfold regO; rw [if_neg (by omega), if_neg (by omega), if_neg (by omega)]
      rw [r]; exact il_pc h _ (and3_mod v)
    · rw [if_neg q]
      refine il_low h _ _ ?_
      have b := bankW_lt (s 29)
      unfold regO
      split
      · omega
      split
      · omega
      split <;> omega
  · exact h
end Go.Proofs.Ytpfhplhamnohjaa
