/- Words on a call of a script of layer 11; Keep and Evict of the three TLBs. -/
import Derived.Test.YtngcpcgioophcaaDoorSame11
namespace Go.Proofs.YtngcpcgioophcaaDoor
open Go.RowKit

structure Op11 where
  kind : Int
  asid : Int
  pick : Int
  which : Int
  va : Int
  fetch : Bool
  mf : Bool
  blk : Blk
  drop : Tlbi
structure Op11.Ok (o : Op11) : Prop where
  pick0 : -9223372036854775808 ≤ o.pick
  pick1 : o.pick ≤ 9223372036854775807
  b : o.blk.Ok
def op11Cells (o : Op11) : List Value := [.int .i64 o.kind, .int .i64 o.asid, .int .i64 o.pick, .int .i64 o.which, .int .u32 o.va, .bool o.fetch, .bool o.mf, .int .i64 o.blk.asid, .int .i64 o.blk.size, .int .u32 o.blk.va, .int .u64 o.blk.pa, .int .i64 o.blk.dom, .int .i64 o.blk.ap, .int .u32 o.blk.bits, .bool o.blk.ng, .bool o.blk.xn, .int .i64 o.drop.kind, .int .u32 o.drop.va, .int .i64 o.drop.asid]
/-- the program's blocks lie ahead of the document's -/
structure Apart (z M hb : Nat) (tb gb : Nat → Nat) (rb : Nat) (rtb rgb : Nat → Nat) : Prop where
  h : hb < M ∧ ∀ k, 1 ≤ k → k ≤ 3 → tb k < M ∧ gb k < M
  r : M ≤ rb ∧ ∀ k, 1 ≤ k → k ≤ 3 → M ≤ rtb k ∧ M ≤ rgb k
def In6 (gb rgb : Nat → Nat) : Nat → Prop := fun i => In3 gb i ∨ In3 rgb i
section
variable {w w' : World} {z M hb rb : Nat} {tb gb rtb rgb : Nat → Nat} {xs : Nat → List Slot}
theorem GrownS.left6 (h : GrownS w w' (In3 gb)) : GrownS w w' (In6 gb rgb) := ⟨h.os, h.tape, h.output, h.size, fun i hi hn => h.block i hi (fun c => hn (.inl c))⟩
theorem GrownS.right6 (h : GrownS w w' (In3 rgb)) : GrownS w w' (In6 gb rgb) := ⟨h.os, h.tape, h.output, h.size, fun i hi hn => h.block i hi (fun c => hn (.inr c))⟩
theorem Apart.keepR (a : Apart z M hb tb gb rb rtb rgb) (hr : IsRef w rb rtb rgb xs) (g : GrownS w w' (In3 gb)) : IsRef w' rb rtb rgb xs := by
  have far : ∀ i, M ≤ i → ¬ In3 gb i := fun i hi ⟨k, h1, h3, e⟩ => by have := (a.h.2 k h1 h3).2; omega
  exact ⟨hr.b.gs g (far _ a.r.1), hr.th.gs g (fun k h1 h3 => far _ (a.r.2 k h1 h3).1) (fun k h1 h3 => far _ (a.r.2 k h1 h3).2), hr.ne⟩
theorem Apart.keepH (a : Apart z M hb tb gb rb rtb rgb) (hr : IsHier w hb tb gb xs) (g : GrownS w w' (In3 rgb)) : IsHier w' hb tb gb xs := by
  have far : ∀ i, i < M → ¬ In3 rgb i := fun i hi ⟨k, h1, h3, e⟩ => by have := (a.r.2 k h1 h3).2; omega
  exact ⟨hr.b.gs g (far _ a.h.1), hr.th.gs g (fun k h1 h3 => far _ (a.h.2 k h1 h3).1) (fun k h1 h3 => far _ (a.h.2 k h1 h3).2), hr.ne⟩
theorem IsHier.zz (h : IsHier w hb tb gb xs) (hr : IsRef w rb rtb rgb xs) : ¬ In6 gb rgb 0 := fun c => by
  rcases c with c | c
  · exact h.th.zero c
  · exact hr.th.zero c
theorem IsHier.nn (h : IsHier w hb tb gb xs) (hr : IsRef w rb rtb rgb xs) : ¬ In6 gb rgb w.heap.size := fun c => by
  rcases c with ⟨k, a, b, e⟩ | ⟨k, a, b, e⟩
  · have := (h.th.t k a b).sl.lt; omega
  · have := (hr.th.t k a b).sl.lt; omega
theorem IsHier.drew (h : IsHier w hb tb gb xs) : IsHier w.drew hb tb gb xs := h.below (bdrew (Below.refl _ _))
theorem IsRef.drew (h : IsRef w rb rtb rgb xs) : IsRef w.drew rb rtb rgb xs := h.below (bdrew (Below.refl _ _))
end
/-- the places behind a call -/
def stepR (o : Op11) (xs : Nat → List Slot) : Nat → List Slot :=
  if o.kind = 1 then (findR xs o.va o.asid o.fetch o.pick o.mf).2.2 else if o.kind = 2 then keepR xs o.blk o.va o.asid o.fetch o.pick
  else if o.kind = 3 then (evictR xs o.which o.pick).2 else if o.kind = 4 then dropR3 xs o.drop else xs
def StepPost (hb : Nat) (tb gb : Nat → Nat) (rb : Nat) (rtb rgb : Nat → Nat) (ys : Nat → List Slot) (w : World) (e : Ending) (w' : World) : Prop :=
  e = .returned (.bool true) ∧ IsHier w' hb tb gb ys ∧ IsRef w' rb rtb rgb ys ∧ GrownS w w' (In6 gb rgb)
theorem putAny_ok3 {xs : Nat → List Slot} (h : Ok3 xs) (b : Blk) (hb : b.Ok) (k : Nat) (h1 : 1 ≤ k) (h3 : k ≤ 3) (p : Int) : Ok3 (upd xs k (putAny b (xs k) p)) := h.upd (putAny_ok _ hb _ _ (h k h1 h3))
theorem findR_ok (xs : Nat → List Slot) (h : Ok3 xs) (va asid : Int) (f : Bool) (p : Int) (mf : Bool) : Ok3 (findR xs va asid f p mf).2.2 := by
  obtain ⟨s1, s3, _⟩ := sm_le f
  unfold findR
  split
  · dsimp only
    split
    · exact putAny_ok3 h _ (lookB_ok _ _ _ (h 3 (by omega) (by omega))) _ s1 s3 _
    · exact h
  · exact h
theorem stepR_ok (o : Op11) (ho : o.Ok) (xs : Nat → List Slot) (h : Ok3 xs) : Ok3 (stepR o xs) := by
  unfold stepR
  split
  · exact findR_ok _ h _ _ _ _ _
  split
  · unfold keepR
    obtain ⟨s1, s3, _⟩ := sm_le o.fetch
    split
    · exact (h.upd (takeRow_ok _ ho.b _ _ _ _ (h 3 (by omega) (by omega)))).upd (takeRow_ok _ ho.b _ _ _ _ (h _ s1 s3))
    · exact h
  split
  · unfold evictR
    split
    · rename_i hh
      split
      · exact h.upd (set_ok _ _ _ (h _ (by omega) (by omega)) zslot_ok)
      · exact h
    · exact h
  split
  · exact ((h.upd (dropRow_ok _ _ (h 1 (by omega) (by omega)))).upd (dropRow_ok _ _ (h 2 (by omega) (by omega)))).upd (dropRow_ok _ _ (h 3 (by omega) (by omega)))
  · exact h
theorem Calls.bel {P : Program} {f : FuncId} {args : Array Value} {w : World} {v : Value} (h : Calls P f args w fun e w' => e = .returned v ∧ w = w') : Calls P f args w fun e w' => e = .returned v ∧ Below w.heap.size w w' :=
  h.mono fun _ _ ⟨he, hw⟩ => ⟨he, by rw [← hw]; exact Below.refl _ _⟩
def keepN (b : Blk) (va asid : Int) : Int := if overB b va asid = true then 0 else 101
theorem hier_Keep_is (b : Blk) (hbo : b.Ok) (va asid : Int) (fetch : Bool) (pick : Int) (hp0 : -9223372036854775808 ≤ pick) (hp1 : pick ≤ 9223372036854775807) (hb : Nat) (tb gb : Nat → Nat) (xs : Nat → List Slot) (hxo : Ok3 xs) (w : World) (hs : Shf w) (h : IsHier w hb tb gb xs) :
    Calls Tryd.prog 40 #[.pointer (some ⟨hb, 0, none⟩), (.agg #[.int .i64 b.asid, .int .i64 b.size, .int .u32 b.va, .int .u64 b.pa, .int .i64 b.dom, .int .i64 b.ap, .int .u32 b.bits, .bool b.ng, .bool b.xn]), .int .u32 va, .int .i64 asid, .bool fetch, .int .i64 pick] w fun e w' => e = .returned (.int .i64 (keepN b va asid)) ∧ IsHier w' hb tb gb (keepR xs b va asid fetch pick) ∧ GrownS w w' (In3 gb) := by
  cases ho : overB b va asid
  · refine (hier_Keep_no b hbo va asid ho fetch pick ⟨hb, 0, none⟩ w hs).mono ?_
    rintro e w' ⟨rfl, hB⟩
    have e1 : keepN b va asid = 101 := by unfold keepN; simp [ho]
    have e2 : keepR xs b va asid fetch pick = xs := by unfold keepR; simp [ho]
    rw [e1, e2]
    exact ⟨rfl, h.below hB, GrownS.ofBelow hB⟩
  · refine (hier_Keep_yes b hbo va asid ho fetch pick hp0 hp1 hb tb gb xs hxo w hs h).mono ?_
    rintro e w' ⟨rfl, hI, hg⟩
    have e1 : keepN b va asid = 0 := by unfold keepN; simp [ho]
    rw [e1]
    exact ⟨rfl, hI, hg⟩
theorem ref11_Keep_is (b : Blk) (hbo : b.Ok) (va asid : Int) (fetch : Bool) (pick : Int) (hp0 : -9223372036854775808 ≤ pick) (hp1 : pick ≤ 9223372036854775807) (hb : Nat) (tb gb : Nat → Nat) (xs : Nat → List Slot) (hxo : Ok3 xs) (w : World)  (h : IsRef w hb tb gb xs) :
    Calls Tryd.prog 71 #[.pointer (some ⟨hb, 0, none⟩), (.agg #[.int .i64 b.asid, .int .i64 b.size, .int .u32 b.va, .int .u64 b.pa, .int .i64 b.dom, .int .i64 b.ap, .int .u32 b.bits, .bool b.ng, .bool b.xn]), .int .u32 va, .int .i64 asid, .bool fetch, .int .i64 pick] w fun e w' => e = .returned (.int .i64 (keepN b va asid)) ∧ IsRef w' hb tb gb (keepR xs b va asid fetch pick) ∧ GrownS w w' (In3 gb) := by
  cases ho : overB b va asid
  · refine (ref11_Keep_no b hbo va asid ho fetch pick ⟨hb, 0, none⟩ w ).mono ?_
    rintro e w' ⟨rfl, hB⟩
    have e1 : keepN b va asid = 101 := by unfold keepN; simp [ho]
    have e2 : keepR xs b va asid fetch pick = xs := by unfold keepR; simp [ho]
    rw [e1, e2]
    exact ⟨rfl, h.below hB, GrownS.ofBelow hB⟩
  · refine (ref11_Keep_yes b hbo va asid ho fetch pick hp0 hp1 hb tb gb xs hxo w  h).mono ?_
    rintro e w' ⟨rfl, hI, hg⟩
    have e1 : keepN b va asid = 0 := by unfold keepN; simp [ho]
    rw [e1]
    exact ⟨rfl, hI, hg⟩
theorem hier_Evict_is (which pick : Int) (hb : Nat) (tb gb : Nat → Nat) (xs : Nat → List Slot) (w : World) (h : IsHier w hb tb gb xs) :
    Calls Tryd.prog 50 #[.pointer (some ⟨hb, 0, none⟩), .int .i64 which, .int .i64 pick] w fun e w' => e = .returned (.bool (evictR xs which pick).1) ∧ IsHier w' hb tb gb (evictR xs which pick).2 ∧ GrownS w w' (In3 gb) := by
  by_cases hw : 1 ≤ which ∧ which ≤ 3
  · obtain ⟨k, rfl⟩ := Int.eq_ofNat_of_zero_le (show 0 ≤ which by omega)
    have hk : (k : Int).toNat = k := by simp
    by_cases hp : 0 ≤ pick ∧ pick < (xs k).length
    · obtain ⟨i, rfl⟩ := Int.eq_ofNat_of_zero_le hp.1
      have hi : (i : Int).toNat = i := by simp
      obtain ⟨s, hs⟩ : ∃ s, (xs k)[i]? = some s := ⟨_, List.getElem?_eq_getElem (by omega)⟩
      have e1 : evictR xs k i = (s.full, upd xs k ((xs k).set i zslot)) := by unfold evictR; rw [if_pos hw, hk, if_pos hp, hi, hs]; rfl
      rw [e1]
      exact hier_Evict_yes k (by omega) (by omega) i s hb tb gb xs hs w h
    · have e1 : evictR xs k pick = (false, xs) := by unfold evictR; rw [if_pos hw, hk, if_neg hp]
      rw [e1]
      refine (hier_Evict_out k (by omega) (by omega) pick hb tb gb xs (by omega) w h).mono ?_
      rintro e w' ⟨rfl, rfl⟩
      exact ⟨rfl, h, GrownS.refl _ _⟩
  · have e1 : evictR xs which pick = (false, xs) := by unfold evictR; rw [if_neg hw]
    rw [e1]
    refine (hier_Evict_no which (by omega) pick ⟨hb, 0, none⟩ w).mono ?_
    rintro e w' ⟨rfl, rfl⟩
    exact ⟨rfl, h, GrownS.refl _ _⟩
theorem ref11_Evict_is (which pick : Int) (hb : Nat) (tb gb : Nat → Nat) (xs : Nat → List Slot) (w : World) (h : IsRef w hb tb gb xs) :
    Calls Tryd.prog 72 #[.pointer (some ⟨hb, 0, none⟩), .int .i64 which, .int .i64 pick] w fun e w' => e = .returned (.bool (evictR xs which pick).1) ∧ IsRef w' hb tb gb (evictR xs which pick).2 ∧ GrownS w w' (In3 gb) := by
  by_cases hw : 1 ≤ which ∧ which ≤ 3
  · obtain ⟨k, rfl⟩ := Int.eq_ofNat_of_zero_le (show 0 ≤ which by omega)
    have hk : (k : Int).toNat = k := by simp
    by_cases hp : 0 ≤ pick ∧ pick < (xs k).length
    · obtain ⟨i, rfl⟩ := Int.eq_ofNat_of_zero_le hp.1
      have hi : (i : Int).toNat = i := by simp
      obtain ⟨s, hs⟩ : ∃ s, (xs k)[i]? = some s := ⟨_, List.getElem?_eq_getElem (by omega)⟩
      have e1 : evictR xs k i = (s.full, upd xs k ((xs k).set i zslot)) := by unfold evictR; rw [if_pos hw, hk, if_pos hp, hi, hs]; rfl
      rw [e1]
      exact ref11_Evict_yes k (by omega) (by omega) i s hb tb gb xs hs w h
    · have e1 : evictR xs k pick = (false, xs) := by unfold evictR; rw [if_pos hw, hk, if_neg hp]
      rw [e1]
      refine (ref11_Evict_out k (by omega) (by omega) pick hb tb gb xs (by omega) w h).mono ?_
      rintro e w' ⟨rfl, rfl⟩
      exact ⟨rfl, h, GrownS.refl _ _⟩
  · have e1 : evictR xs which pick = (false, xs) := by unfold evictR; rw [if_neg hw]
    rw [e1]
    refine (ref11_Evict_no which (by omega) pick ⟨hb, 0, none⟩ w).mono ?_
    rintro e w' ⟨rfl, rfl⟩
    exact ⟨rfl, h, GrownS.refl _ _⟩
end Go.Proofs.YtngcpcgioophcaaDoor
