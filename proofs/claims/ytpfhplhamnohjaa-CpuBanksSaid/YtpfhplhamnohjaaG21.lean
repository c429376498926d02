/- Bits of a word as a BitVec (plain). Layer 20: what a user's instruction leaves alone (plain). Layer 20: a user's step and the banks (plain). -/
import Derived.Test.YtpfhplhamnohjaaG17
namespace Go.Proofs.Ytpfhplhamnohjaa
open Go.RowKit

theorem nat_bv (x : Int) (h : 0 ≤ x ∧ x < 4294967296) : ((BitVec.ofInt 32 x).toNat : Int) = x := by
  rw [BitVec.toNat_ofInt]; omega
theorem wordF_low (f : Flg) : (0 ≤ wordF f ∧ wordF f < 4294967296) ∧ wordF f % 268435456 = 0 := by
  unfold wordF
  split <;> split <;> split <;> split <;> decide
theorem bv_or (x y : Int) : bits .or .u32 x y = ((BitVec.ofInt 32 x ||| BitVec.ofInt 32 y).toNat : Int) := by
  unfold bits
  rw [IntKind.wrap_u32]
  show ((BitVec.ofInt 32 x ||| BitVec.ofInt 32 y).toNat : Int) % 4294967296 = _
  have := (BitVec.ofInt 32 x ||| BitVec.ofInt 32 y).isLt
  omega
theorem bv_and (x y : Int) : bits .and .u32 x y = ((BitVec.ofInt 32 x &&& BitVec.ofInt 32 y).toNat : Int) := by
  unfold bits
  rw [IntKind.wrap_u32]
  show ((BitVec.ofInt 32 x &&& BitVec.ofInt 32 y).toNat : Int) % 4294967296 = _
  have := (BitVec.ofInt 32 x &&& BitVec.ofInt 32 y).isLt
  omega
theorem bv_not (x y : Int) : bits .andNot .u32 x y = ((BitVec.ofInt 32 x &&& ~~~ BitVec.ofInt 32 y).toNat : Int) := by
  unfold bits
  rw [IntKind.wrap_u32]
  show ((BitVec.ofInt 32 x &&& ~~~ BitVec.ofInt 32 y).toNat : Int) % 4294967296 = _
  have := (BitVec.ofInt 32 x &&& ~~~ BitVec.ofInt 32 y).isLt
  omega
theorem bv_back (v : BitVec 32) : BitVec.ofInt 32 (v.toNat : Int) = v := by rw [BitVec.ofInt_natCast, BitVec.ofNat_toNat, BitVec.setWidth_eq]
theorem or_low (A W : BitVec 32) (h : W.toNat % 2 ^ 28 = 0) : ((A &&& ~~~ 4026531840#32) ||| W).toNat % 2 ^ 28 = A.toNat % 2 ^ 28 := by
  have e : ∀ V : BitVec 32, V.toNat % 2 ^ 28 = (V.setWidth 28).toNat := fun V => by simp
  have z : W.setWidth 28 = 0#28 := BitVec.eq_of_toNat_eq (by rw [← e]; simpa using h)
  have n : (~~~ 4026531840#32).setWidth 28 = BitVec.allOnes 28 := by decide
  rw [e, e, BitVec.setWidth_or, BitVec.setWidth_and, z, n, BitVec.and_allOnes, BitVec.or_zero]
theorem low28 (x w : Int) (hx : 0 ≤ x ∧ x < 4294967296) (hw : 0 ≤ w ∧ w < 4294967296) (hm : w % 268435456 = 0) : bits .or .u32 (bits .andNot .u32 x 4026531840) w % 268435456 = x % 268435456 := by
  have W := nat_bv w hw
  have X := nat_bv x hx
  have key := or_low (BitVec.ofInt 32 x) (BitVec.ofInt 32 w) (by omega)
  have b1 : bits .andNot .u32 x 4026531840 = ((BitVec.ofInt 32 x &&& ~~~ 4026531840#32).toNat : Int) := by
    unfold bits
    rw [IntKind.wrap_u32]
    show ((BitVec.ofInt 32 x &&& ~~~ 4026531840#32).toNat : Int) % 4294967296 = _
    have := (BitVec.ofInt 32 x &&& ~~~ 4026531840#32).isLt
    omega
  rw [b1]
  unfold bits
  rw [IntKind.wrap_u32]
  show (((BitVec.ofInt 32 ((BitVec.ofInt 32 x &&& ~~~ 4026531840#32).toNat : Int)) ||| BitVec.ofInt 32 w).toNat : Int) % 4294967296 % 268435456 = _
  rw [BitVec.ofInt_natCast, BitVec.ofNat_toNat, BitVec.setWidth_eq]
  omega
end Go.Proofs.Ytpfhplhamnohjaa
namespace Go.Proofs.Ytpfhplhamnohjaa
open Go.RowKit

/-- the other banks, and all of CPSR but the flags -/
structure UK (s s' : Sta) : Prop where
  bank : ∀ i, (14 ≤ i ∧ i < 18) ∨ (19 ≤ i ∧ i < 28) → s' i = s i
  low : s' 29 % 268435456 = s 29 % 268435456
theorem UK.refl (s : Sta) : UK s s := ⟨fun _ _ => rfl, rfl⟩
theorem UK.trans {a b c : Sta} (h : UK a b) (k : UK b c) : UK a c := ⟨fun i q => (k.bank i q).trans (h.bank i q), k.low.trans h.low⟩
theorem UK.mode {a b : Sta} (h : UK a b) : b 29 % 32 = a 29 % 32 := by have := h.low; omega
theorem uk_set {s : Sta} (i : Nat) (v : Int) (hi : i < 14 ∨ i = 18 ∨ i = 28) : UK s (set s i v) := by
  refine ⟨fun j q => ?_, ?_⟩
  · unfold set; rw [if_neg (by omega)]
  · unfold set; rw [if_neg (by omega)]
theorem uk_put {s : Sta} (hu : s 29 % 32 = 16) (n v : Int) : UK s (putS s n v) := by
  have hb : bankW (s 29) = 0 := by unfold bankW bankB; rw [hu]; rfl
  unfold putS
  split
  · exact uk_set 28 _ (by omega)
  · refine uk_set _ _ ?_
    unfold regO
    rw [hb]
    split
    · omega
    split
    · exact .inl (by simp)
    split
    · exact .inr (.inl (by simp))
    · exact .inr (.inr rfl)
theorem uk_puts {s : Sta} (hu : s 29 % 32 = 16) (i : Ins) (vs : Nat → Int) : ∀ k, UK s (mputs s i vs k)
  | 0 => UK.refl s
  | k + 1 => by
    have h := uk_puts hu i vs k
    unfold mputs
    split
    · exact h.trans (uk_put (by rw [h.mode]; exact hu) _ _)
    · exact h
theorem uk_mark {s : Sta} (hs : 0 ≤ s 29 ∧ s 29 < 4294967296) (f : Flg) : UK s (markS s f) := by
  refine ⟨fun j q => ?_, ?_⟩
  · unfold markS set; rw [if_neg (by omega)]
  · unfold markS set; rw [if_pos rfl]; exact low28 _ _ hs (wordF_low f).1 (wordF_low f).2
theorem msr_low (A B Y : BitVec 32) : ((A &&& ~~~ (B &&& 4026531840#32)) ||| (Y &&& (B &&& 4026531840#32))).toNat % 2 ^ 28 = A.toNat % 2 ^ 28 := by
  have e : ∀ V : BitVec 32, V.toNat % 2 ^ 28 = (V.setWidth 28).toNat := fun V => by simp
  have z : (4026531840#32).setWidth 28 = 0#28 := by decide
  rw [e, e, BitVec.setWidth_or, BitVec.setWidth_and, BitVec.setWidth_and, BitVec.setWidth_not (by decide), BitVec.setWidth_and, z]
  simp only [BitVec.and_zero, BitVec.not_zero, BitVec.and_allOnes, BitVec.or_zero]
theorem uk_msr (x y b : Int) (hx : 0 ≤ x ∧ x < 4294967296) : msrX x y (bits .and .u32 b 4026531840) % 268435456 = x % 268435456 := by
  have X := nat_bv x hx
  have key := msr_low (BitVec.ofInt 32 x) (BitVec.ofInt 32 b) (BitVec.ofInt 32 y)
  unfold msrX
  rw [bv_or, bv_not, bv_and, bv_and, bv_back, bv_back, bv_back]
  rw [show BitVec.ofInt 32 4026531840 = 4026531840#32 from rfl]
  omega
theorem uk_stat {o s s' : Sta} (hu : o 29 % 32 = 16) (hs : OkS s) (e29 : s 29 = o 29) (at_ : Int) (i : Ins) (h : statS o s at_ i = some s') : UK s s' := by
  have hw : ownN o = 0 := by unfold ownN bankW bankB; rw [hu]; rfl
  have hub : userB o = true := by unfold userB; rw [hu]; rfl
  unfold statS at h
  rw [if_pos hw, if_pos hw, if_pos hub] at h
  by_cases h47 : i.op = 47
  · rw [if_pos h47] at h
    by_cases q : i.s = true
    · rw [if_pos q] at h; cases h
    · rw [if_neg q] at h; rw [← Option.some.inj h]; exact uk_put (by rw [e29]; exact hu) _ _
  rw [if_neg h47] at h
  by_cases q : i.s = true
  · rw [if_pos q] at h; cases h
  · rw [if_neg q] at h
    dsimp only at h
    split at h
    · rw [← Option.some.inj h]
      refine ⟨fun j q => ?_, ?_⟩
      · unfold set; rw [if_neg (by omega)]
      · unfold set; rw [if_pos rfl, e29]; exact uk_msr _ _ _ (by rw [← e29]; exact hs 29 (by omega))
    · cases h
theorem put_29 {s : Sta} (hu : s 29 % 32 = 16) (n v : Int) : putS s n v 29 = s 29 := by
  have hb : bankW (s 29) = 0 := by unfold bankW bankB; rw [hu]; rfl
  unfold putS set
  split
  · rfl
  · show (if 29 = regO (s 29) n then v else s 29) = s 29
    rw [if_neg]
    unfold regO
    rw [hb]
    split
    · omega
    split
    · simp
    split
    · simp
    · omega
theorem uk_data {o s s' : Sta} (hu : s 29 % 32 = 16) (hs : OkS s) (at_ : Int) (i : Ins) (h : dataS o s at_ i = some s') : UK s s' := by
  have nb : backB s = false := by unfold backB bankW bankB; rw [hu]; rfl
  unfold dataS at h
  split at h
  · rw [nb] at h; cases h
  · rw [← Option.some.inj h]
    have P : UK s (if doB i.op then putS s i.rd (dataW o at_ i) else s) ∧ (if doB i.op then putS s i.rd (dataW o at_ i) else s) 29 = s 29 := by
      split
      · exact ⟨uk_put hu _ _, put_29 hu _ _⟩
      · exact ⟨UK.refl s, rfl⟩
    split
    · exact P.1.trans (uk_mark (by rw [P.2]; exact hs 29 (by omega)) _)
    · exact P.1
theorem uk_put2 {s t : Sta} (h : UK s t) (hu : s 29 % 32 = 16) (n v : Int) : UK s (putS t n v) := h.trans (uk_put (by rw [h.mode]; exact hu) n v)
theorem uk_prod {s : Sta} (hu : s 29 % 32 = 16) (hs : OkS s) (o : Sta) (at_ : Int) (i : Ins) : UK s (prodS o s at_ i) := by
  have h29 := hs 29 (by omega)
  unfold prodS
  split
  · dsimp only
    split
    · exact (uk_put hu _ _).trans (uk_mark (by rw [put_29 hu]; exact h29) _)
    · exact uk_put hu _ _
  · dsimp only
    have m1 : ∀ n v, putS s n v 29 % 32 = 16 := fun n v => by rw [put_29 hu]; exact hu
    split
    · exact ((uk_put hu _ _).trans (uk_put (m1 _ _) _ _)).trans (uk_mark (by rw [put_29 (m1 _ _), put_29 hu]; exact h29) _)
    · exact (uk_put hu _ _).trans (uk_put (m1 _ _) _ _)
theorem uk_one {s : Sta} (hu : s 29 % 32 = 16) (o : Sta) (at_ : Int) (i : Ins) (x : Int) : UK s (oneS o s at_ i x) := by
  have B : UK s (oneB o s at_ i) := by
    unfold oneB
    split
    · exact uk_put hu _ _
    · exact UK.refl s
  unfold oneS
  split
  · exact B
  · exact uk_put2 B hu _ _
theorem uk_branch {s : Sta} (hu : s 29 % 32 = 16) (o : Sta) (at_ : Int) (i : Ins) : UK s (branchS o s at_ i) := by
  unfold branchS
  refine uk_put2 ?_ hu _ _
  split
  · exact uk_put hu _ _
  · exact UK.refl s
theorem uk_many {s : Sta} (hu : s 29 % 32 = 16) (o : Sta) (at_ : Int) (i : Ins) (vs : Nat → Int) : UK s (mputs (manyW o s at_ i) i vs 16) := by
  have W : UK s (manyW o s at_ i) := by
    unfold manyW
    split
    · exact uk_put hu _ _
    · exact UK.refl s
  exact W.trans (uk_puts (by rw [W.mode]; exact hu) i vs 16)
theorem exec_uk {M : Type} (F : BusM M) (m : M) (o s : Sta) (at_ : Int) (i : Ins) (hu : o 29 % 32 = 16) (hs : OkS s) (e29 : s 29 = o 29) (s' : Sta) (h : (execO F m o s at_ i).2 = .ok s') : UK s s' := by
  have hus : s 29 % 32 = 16 := by rw [e29]; exact hu
  unfold execO at h
  have oo : ∀ r : Option Sta, outOf r = .ok s' → r = some s' := fun r e => by
    cases r with
    | none => cases e
    | some x => simp only [outOf, Out.ok.injEq] at e; rw [e]
  by_cases h16 : i.op ≤ 16
  · rw [if_pos h16] at h; exact uk_data hus hs at_ i (oo _ h)
  rw [if_neg h16] at h
  by_cases h18 : i.op ≤ 18
  · rw [if_pos h18] at h; rw [← Out.ok.inj h]; exact uk_put hus _ _
  rw [if_neg h18] at h
  by_cases h24 : i.op ≤ 24
  · rw [if_pos h24] at h; rw [← Out.ok.inj h]; exact uk_prod hus hs _ _ _
  rw [if_neg h24] at h
  by_cases h30 : i.op ≤ 30
  · rw [if_pos h30] at h; rw [← Out.ok.inj h]; exact uk_put hus _ _
  rw [if_neg h30] at h
  by_cases h38 : i.op ≤ 38
  · rw [if_pos h38] at h
    dsimp only at h
    split at h
    · rw [← Out.ok.inj h]; exact uk_one hus _ _ _ _
    · cases h
  rw [if_neg h38] at h
  by_cases h40 : i.op ≤ 40
  · rw [if_pos h40] at h
    unfold manyO at h
    cases q : mrun F m o at_ i 16 with
    | error e => rw [q] at h; cases h
    | ok st =>
      rw [q] at h
      rw [← Out.ok.inj h]
      exact uk_many hus _ _ _ _
  rw [if_neg h40] at h
  by_cases h44 : i.op ≤ 44
  · rw [if_pos h44] at h; rw [← Out.ok.inj h]; exact uk_branch hus _ _ _
  rw [if_neg h44] at h
  by_cases h46 : i.op ≤ 46
  · rw [if_pos h46] at h; rw [← Out.ok.inj h]; exact UK.refl s
  rw [if_neg h46] at h
  by_cases h48 : i.op ≤ 48
  · rw [if_pos h48] at h; exact uk_stat hu hs e29 at_ i (oo _ h)
  rw [if_neg h48] at h
  by_cases h49 : i.op = 49
  · rw [if_pos h49] at h
    dsimp only at h
    split at h
    · rw [← Out.ok.inj h]; exact UK.refl s
    · cases h
  rw [if_neg h49] at h
  by_cases h50 : i.op = 50
  · rw [if_pos h50] at h
    dsimp only at h
    split at h
    · rw [← Out.ok.inj h]; exact uk_put hus _ _
    · cases h
  rw [if_neg h50] at h
  rw [← Out.ok.inj h]; exact UK.refl s
end Go.Proofs.Ytpfhplhamnohjaa
namespace Go.Proofs.Ytpfhplhamnohjaa
open Go.RowKit

def bkK (k : Int) : Int := if k = 1 then 3 else if k = 2 then 1 else if k = 3 then 2 else if k = 4 then 2 else if k = 5 then 4 else 0
def mdK (k : Int) : Int := if k = 1 then 27 else if k = 2 then 19 else if k = 3 then 23 else if k = 4 then 23 else if k = 5 then 18 else 16
def vcK (k : Int) : Int := if k = 1 then 4 else if k = 2 then 8 else if k = 3 then 12 else if k = 4 then 16 else if k = 5 then 24 else 0
def moK (k : Int) : Int := if k = 4 then 8 else 4
/-- a user's step: its own registers alone, or an exception's entry out of the state before -/
theorem step_banks {M : Type} (F : BusM M) (m : M) (s : Sta) (on : Bool) (hu : s 29 % 32 = 16) (hs : OkS s) :
    (((stepO F m s on).2.2.kind = 0 ∨ (stepO F m s on).2.2.kind = 6) ∧ UK s (stepO F m s on).2.1) ∨
    ((1 ≤ (stepO F m s on).2.2.kind ∧ (stepO F m s on).2.2.kind ≤ 5) ∧ (stepO F m s on).2.1 = entS s (mdK (stepO F m s on).2.2.kind) ((s 28 + moK (stepO F m s on).2.2.kind) % 4294967296) (vcK (stepO F m s on).2.2.kind)) := by
  unfold stepO
  split
  · exact .inr ⟨⟨by dsimp only; omega, by dsimp only; omega⟩, rfl⟩
  dsimp only
  split
  · exact .inr ⟨⟨by dsimp only; omega, by dsimp only; omega⟩, rfl⟩
  unfold tookO
  split
  · exact .inr ⟨⟨by dsimp only; omega, by dsimp only; omega⟩, rfl⟩
  split
  · exact .inl ⟨.inl rfl, uk_set 28 _ (by omega)⟩
  split
  · exact .inr ⟨⟨by dsimp only; omega, by dsimp only; omega⟩, rfl⟩
  split
  · exact .inr ⟨⟨by dsimp only; omega, by dsimp only; omega⟩, rfl⟩
  split
  · exact .inl ⟨.inr rfl, UK.refl s⟩
  dsimp only
  have K := exec_uk F (F.acc m 1 (s 28) 4 0 (!userB s)).1 s (set s 28 ((s 28 + 4) % 4294967296)) (s 28) (decodeI (F.acc m 1 (s 28) 4 0 (!userB s)).2.val).1 hu (okS_set hs 28 (by omega)) (by unfold set; rw [if_neg (by omega)])
  generalize execO F (F.acc m 1 (s 28) 4 0 (!userB s)).1 s (set s 28 ((s 28 + 4) % 4294967296)) (s 28) (decodeI (F.acc m 1 (s 28) 4 0 (!userB s)).2.val).1 = r at K ⊢
  obtain ⟨m1, r⟩ := r
  dsimp only at K ⊢
  cases r with
  | ok s' => exact .inl ⟨.inl rfl, (uk_set 28 _ (by omega)).trans (K s' rfl)⟩
  | un => exact .inr ⟨⟨by simp [doesT], by simp [doesT]⟩, rfl⟩
  | ab pe => exact .inr ⟨⟨by simp [doesT], by simp [doesT]⟩, rfl⟩
structure BkP (k : Int) (s n : Sta) : Prop where
  mode : bits .and .u32 (n 29) 31 = mdK k
  sp : ∀ j, 1 ≤ j → j < 5 → n (13 + j) = s (13 + j)
  lr : ∀ j : Nat, 1 ≤ j → j < 5 → (j : Int) ≠ bkK k → n (18 + j) = s (18 + j) ∧ n (23 + j) = s (23 + j)
  quiet : k = 0 ∨ k = 6 → bits .and .u32 (n 29) 128 = bits .and .u32 (s 29) 128
  took : 1 ≤ k ∧ k ≤ 5 → n 28 = vcK k ∧ n 29 = bits .or .u32 (bits .or .u32 (bits .and .u32 (s 29) 4026531840) 128) (mdK k) ∧ n (23 + (bkK k).toNat) = s 29 ∧ n (18 + (bkK k).toNat) = (s 28 + moK k) % 4294967296 ∧ (∀ j, j < 14 → n j = s j) ∧ n 18 = s 18
theorem and_low (x y c : Int) (hx : 0 ≤ x ∧ x < 4294967296) (hy : 0 ≤ y ∧ y < 4294967296) (h : y % 268435456 = x % 268435456) (hc2 : BitVec.ofInt 32 c = (BitVec.ofInt 28 c).setWidth 32) : bits .and .u32 y c = bits .and .u32 x c := by
  rw [bv_and, bv_and]
  congr 1
  have X := nat_bv x hx
  have Y := nat_bv y hy
  have e : (BitVec.ofInt 32 x).setWidth 28 = (BitVec.ofInt 32 y).setWidth 28 := by
    apply BitVec.eq_of_toNat_eq
    rw [BitVec.toNat_setWidth, BitVec.toNat_setWidth]
    omega
  have t : ∀ V : BitVec 32, V &&& BitVec.ofInt 32 c = ((V.setWidth 28) &&& BitVec.ofInt 28 c).setWidth 32 := by
    intro V
    rw [hc2]
    apply BitVec.eq_of_getLsbD_eq
    intro i hi
    simp only [BitVec.getLsbD_and, BitVec.getLsbD_setWidth]
    by_cases q : i < 28
    · simp [hi, q]
    · have z : (BitVec.ofInt 28 c).getLsbD i = false := BitVec.getLsbD_of_ge _ _ (by omega)
      simp [q, z]
  rw [t, t, e]
theorem ent_bits (Y M : BitVec 32) : ((((Y &&& 4026531968#32) ||| 16#32) &&& ~~~ 31#32) ||| M) ||| 128#32 = ((((Y &&& 4026531968#32) ||| 16#32) &&& 4026531840#32) ||| 128#32) ||| M := by
  apply BitVec.eq_of_getLsbD_eq
  intro i hi
  have q : i = 0 ∨ i = 1 ∨ i = 2 ∨ i = 3 ∨ i = 4 ∨ i = 5 ∨ i = 6 ∨ i = 7 ∨ i = 8 ∨ i = 9 ∨ i = 10 ∨ i = 11 ∨ i = 12 ∨ i = 13 ∨ i = 14 ∨ i = 15 ∨ i = 16 ∨ i = 17 ∨ i = 18 ∨ i = 19 ∨ i = 20 ∨ i = 21 ∨ i = 22 ∨ i = 23 ∨ i = 24 ∨ i = 25 ∨ i = 26 ∨ i = 27 ∨ i = 28 ∨ i = 29 ∨ i = 30 ∨ i = 31 := by omega
  rcases q with rfl | rfl | rfl | rfl | rfl | rfl | rfl | rfl | rfl | rfl | rfl | rfl | rfl | rfl | rfl | rfl | rfl | rfl | rfl | rfl | rfl | rfl | rfl | rfl | rfl | rfl | rfl | rfl | rfl | rfl | rfl | rfl <;> simp
theorem ent_mode (X M : BitVec 32) : (((X &&& ~~~ 31#32) ||| M) ||| 128#32) &&& 31#32 = M &&& 31#32 := by
  apply BitVec.eq_of_getLsbD_eq
  intro i hi
  have q : i = 0 ∨ i = 1 ∨ i = 2 ∨ i = 3 ∨ i = 4 ∨ i = 5 ∨ i = 6 ∨ i = 7 ∨ i = 8 ∨ i = 9 ∨ i = 10 ∨ i = 11 ∨ i = 12 ∨ i = 13 ∨ i = 14 ∨ i = 15 ∨ i = 16 ∨ i = 17 ∨ i = 18 ∨ i = 19 ∨ i = 20 ∨ i = 21 ∨ i = 22 ∨ i = 23 ∨ i = 24 ∨ i = 25 ∨ i = 26 ∨ i = 27 ∨ i = 28 ∨ i = 29 ∨ i = 30 ∨ i = 31 := by omega
  rcases q with rfl | rfl | rfl | rfl | rfl | rfl | rfl | rfl | rfl | rfl | rfl | rfl | rfl | rfl | rfl | rfl | rfl | rfl | rfl | rfl | rfl | rfl | rfl | rfl | rfl | rfl | rfl | rfl | rfl | rfl | rfl | rfl <;> simp
theorem banks_law (k : Int) (s n : Sta) (hu : s 29 % 32 = 16) (hs : OkS s) (hn : OkS n) (y : Int) (hy : s 29 = bits .or .u32 (bits .and .u32 y 4026531968) 16)
    (h : ((k = 0 ∨ k = 6) ∧ UK s n) ∨ ((1 ≤ k ∧ k ≤ 5) ∧ n = entS s (mdK k) ((s 28 + moK k) % 4294967296) (vcK k))) : BkP k s n := by
  have s29 := hs 29 (by omega)
  have n29 := hn 29 (by omega)
  have a31 : ∀ x : Int, 0 ≤ x → x < 4294967296 → bits .and .u32 x 31 = x % 32 := fun x h1 h2 => by
    have a := and32 5 (by decide) x h1 (by simpa using h2)
    simpa using a
  rcases h with ⟨h, U⟩ | ⟨h, U⟩
  · refine ⟨?_, fun j a b => U.bank _ (by omega), fun j a b _ => ⟨U.bank _ (by omega), U.bank _ (by omega)⟩, fun _ => ?_, fun q => by omega⟩
    · rw [a31 _ n29.1 n29.2, U.mode, hu]
      rcases h with h | h <;> subst h <;> rfl
    · exact and_low _ _ 128 s29 n29 U.low (by decide)
  · have B : (bankB (mdK k)).1 = bkK k := by
      have q : k = 1 ∨ k = 2 ∨ k = 3 ∨ k = 4 ∨ k = 5 := by omega
      rcases q with rfl | rfl | rfl | rfl | rfl <;> decide
    have b1 : 1 ≤ bkK k ∧ bkK k ≤ 4 := by
      have q : k = 1 ∨ k = 2 ∨ k = 3 ∨ k = 4 ∨ k = 5 := by omega
      rcases q with rfl | rfl | rfl | rfl | rfl <;> decide
    have m1 : BitVec.ofInt 32 (mdK k) &&& 31#32 = BitVec.ofInt 32 (mdK k) ∧ ((BitVec.ofInt 32 (mdK k)).toNat : Int) = mdK k := by
      have q : k = 1 ∨ k = 2 ∨ k = 3 ∨ k = 4 ∨ k = 5 := by omega
      rcases q with rfl | rfl | rfl | rfl | rfl <;> decide
    have E : ∀ j, n j = if j = 28 then vcK k else if j = 29 then bits .or .u32 (bits .or .u32 (bits .andNot .u32 (s 29) 31) (mdK k)) 128 else if j = 18 + (bkK k).toNat then (s 28 + moK k) % 4294967296 else if j = 23 + (bkK k).toNat then s 29 else s j := by
      intro j
      rw [U]
      unfold entS set
      rw [B]
    have c31 : BitVec.ofInt 32 31 = 31#32 := rfl
    have c128 : BitVec.ofInt 32 128 = 128#32 := rfl
    refine ⟨?_, fun j x1 x2 => ?_, fun j x1 x2 x3 => ⟨?_, ?_⟩, fun q => by omega, fun _ => ⟨?_, ?_, ?_, ?_, fun j x1 => ?_, ?_⟩⟩
    · rw [E 29, if_neg (by omega), if_pos rfl, bv_and, bv_or, bv_or, bv_not, bv_back, bv_back, bv_back, c31, c128, ent_mode, m1.1, m1.2]
    · rw [E, if_neg (by omega), if_neg (by omega), if_neg (by omega), if_neg (by omega)]
    · rw [E, if_neg (by omega), if_neg (by omega), if_neg (by omega), if_neg (by omega)]
    · rw [E, if_neg (by omega), if_neg (by omega), if_neg (by omega), if_neg (by omega)]
    · rw [E, if_pos rfl]
    · rw [E, if_neg (by omega), if_pos rfl, hy]
      rw [bv_or, bv_or, bv_not, bv_or, bv_and, bv_or, bv_or, bv_and]
      simp only [bv_back, c31, c128]
      rw [show BitVec.ofInt 32 4026531968 = 4026531968#32 from rfl, show BitVec.ofInt 32 4026531840 = 4026531840#32 from rfl, show BitVec.ofInt 32 16 = 16#32 from rfl, ent_bits]
    · rw [E, if_neg (by omega), if_neg (by omega), if_neg (by omega), if_pos rfl]
    · rw [E, if_neg (by omega), if_neg (by omega), if_pos rfl]
    · rw [E, if_neg (by omega), if_neg (by omega), if_neg (by omega), if_neg (by omega)]
    · rw [E, if_neg (by omega), if_neg (by omega), if_neg (by omega), if_neg (by omega)]
end Go.Proofs.Ytpfhplhamnohjaa
