/- The calls of a script of layer 10 (Op), one call (does), the TLB that the statements press (pressed), and Places. -/
import Derived.Test.YtngcpcgioophcaaDoorLive
namespace Go.Proofs.YtngcpcgioophcaaDoor
open Go.RowKit

structure Op10 where
  kind : Int
  va : Int
  n : Int
  blk : Blk
  drop : Tlbi
structure Op10.Ok (o : Op10) : Prop where
  n0 : -9223372036854775808 ≤ o.n
  n1 : o.n ≤ 9223372036854775807
  b : o.blk.Ok
def opCells (o : Op10) : List Value := [.int .i64 o.kind, .int .u32 o.va, .int .i64 o.n, .int .i64 o.blk.asid, .int .i64 o.blk.size, .int .u32 o.blk.va, .int .u64 o.blk.pa, .int .i64 o.blk.dom, .int .i64 o.blk.ap, .int .u32 o.blk.bits, .bool o.blk.ng, .bool o.blk.xn, .int .i64 o.drop.kind, .int .u32 o.drop.va, .int .i64 o.drop.asid]
/-- the places behind a call -/
def opRow (o : Op10) (xs : List Slot) : List Slot :=
  if o.kind = 1 then xs else if o.kind = 2 then (if rightB o.blk = true then putRow o.blk xs o.n else xs)
  else if o.kind = 3 then (if 0 ≤ o.n ∧ o.n < xs.length then xs.set o.n.toNat zslot else xs) else if o.kind = 4 then dropRow o.drop xs else xs
def opAt (o : Op10) (xs : List Slot) : Int := if o.kind = 2 then (if rightB o.blk = true then (putAt o.blk xs o.n : Nat) else 0) else 0
def opTook (o : Op10) : Bool := decide (o.kind = 2) && rightB o.blk
theorem opRow_len (o : Op10) (xs : List Slot) : (opRow o xs).length = xs.length := by
  unfold opRow
  split; · rfl
  split
  · split; · exact putRow_len _ _ _
    · rfl
  split
  · split; · simp
    · rfl
  split
  · simp [dropRow]
  · rfl
theorem opRow_ok (o : Op10) (ho : o.Ok) (xs : List Slot) (h : RowOk xs) : RowOk (opRow o xs) := by
  unfold opRow
  split; · exact h
  split
  · split; · exact putRow_ok _ _ _ h ho.b
    · exact h
  split
  · split; · exact set_ok _ _ _ h zslot_ok
    · exact h
  split
  · exact dropRow_ok _ _ h
  · exact h
def opsRow (os : List Op10) (xs : List Slot) : List Slot := os.foldl (fun r o => opRow o r) xs
theorem opsRow_snoc (os : List Op10) (o : Op10) (xs : List Slot) : opsRow (os ++ [o]) xs = opRow o (opsRow os xs) := by simp [opsRow]
theorem opsRow_len (os : List Op10) : ∀ xs : List Slot, (opsRow os xs).length = xs.length := by
  induction os with
  | nil => intro xs; rfl
  | cons o os ih => intro xs; exact (ih (opRow o xs)).trans (opRow_len o xs)
theorem opsRow_ok (os : List Op10) (ho : ∀ o ∈ os, o.Ok) : ∀ xs : List Slot, RowOk xs → RowOk (opsRow os xs) := by
  induction os with
  | nil => intro xs h; exact h
  | cons o os ih => intro xs h; exact ih (fun x hx => ho x (List.mem_cons_of_mem _ hx)) _ (opRow_ok o (ho o List.mem_cons_self) xs h)
theorem IsTlb.same {w w' : World} {tt st : TypeId} {tb g : Nat} {xs : List Slot} (h : IsTlb w tt st tb g xs) (hb : Below w.heap.size w w') : IsTlb w' tt st tb g xs := h.below hb
theorem take_snocO (os : List Op10) (k : Nat) (o : Op10) (h : os[k]? = some o) : os.take (k + 1) = os.take k ++ [o] := by
  rw [List.take_add_one, h]; rfl
section
variable (o : Op10) (ho : o.Ok) (tb g : Nat) (xs : List Slot) (hok : RowOk xs) (hg0 : g ≠ 0) (w : World) (hs : Shf w) (h : IsTlb w 105 50 tb g xs)
include h
set_option maxHeartbeats 3200000 in
include hok hs in
theorem does_1 (hk : o.kind = 1) : Calls Tryd.prog 26 #[.pointer (some ⟨tb, 0, none⟩), (.agg #[.int .i64 o.kind, .int .u32 o.va, .int .i64 o.n, .int .i64 o.blk.asid, .int .i64 o.blk.size, .int .u32 o.blk.va, .int .u64 o.blk.pa, .int .i64 o.blk.dom, .int .i64 o.blk.ap, .int .u32 o.blk.bits, .bool o.blk.ng, .bool o.blk.xn, .int .i64 o.drop.kind, .int .u32 o.drop.va, .int .i64 o.drop.asid])] w fun e w' => e = .returned (.tuple #[.int .i64 (opAt o xs), .bool (opTook o)]) ∧ IsTlb w' 105 50 tb g (opRow o xs) ∧ w.grownBy w' (some g) := by
  have e1 : opAt o xs = 0 := by unfold opAt; simp [hk]
  have e2 : opTook o = false := by unfold opTook; simp [hk]
  have e3 : opRow o xs = xs := by unfold opRow; simp [hk]
  rw [e1, e2, e3]
  obtain ⟨kind, va, n, blk, drop⟩ := o
  simp only at hk
  subst hk
  clear e1 e2 e3
  have h1 := h.below ((Below.refl _ _).alloc (Nat.le_refl _) (.cells #[.int .i64 (Op10.mk 1 va n blk drop).kind, .int .u32 (Op10.mk 1 va n blk drop).va, .int .i64 (Op10.mk 1 va n blk drop).n, .int .i64 (Op10.mk 1 va n blk drop).blk.asid, .int .i64 (Op10.mk 1 va n blk drop).blk.size, .int .u32 (Op10.mk 1 va n blk drop).blk.va, .int .u64 (Op10.mk 1 va n blk drop).blk.pa, .int .i64 (Op10.mk 1 va n blk drop).blk.dom, .int .i64 (Op10.mk 1 va n blk drop).blk.ap, .int .u32 (Op10.mk 1 va n blk drop).blk.bits, .bool (Op10.mk 1 va n blk drop).blk.ng, .bool (Op10.mk 1 va n blk drop).blk.xn, .int .i64 (Op10.mk 1 va n blk drop).drop.kind, .int .u32 (Op10.mk 1 va n blk drop).drop.va, .int .i64 (Op10.mk 1 va n blk drop).drop.asid] 44))
  go_enter Tryd.func26, Tryd.ntmps26
  go_wp2_with (go_at_call 28; refine (tlb_Look_is tb g xs hok va n _ (hs.alloc _) h1).mono ?_; rintro e w1 ⟨rfl, hb1⟩)
  go_ret2
  exact ⟨rfl, h1.below hb1, gbox (grown_of hb1 _)⟩
set_option maxHeartbeats 3200000 in
include ho hs in
theorem does_2 (hk : o.kind = 2) : Calls Tryd.prog 26 #[.pointer (some ⟨tb, 0, none⟩), (.agg #[.int .i64 o.kind, .int .u32 o.va, .int .i64 o.n, .int .i64 o.blk.asid, .int .i64 o.blk.size, .int .u32 o.blk.va, .int .u64 o.blk.pa, .int .i64 o.blk.dom, .int .i64 o.blk.ap, .int .u32 o.blk.bits, .bool o.blk.ng, .bool o.blk.xn, .int .i64 o.drop.kind, .int .u32 o.drop.va, .int .i64 o.drop.asid])] w fun e w' => e = .returned (.tuple #[.int .i64 (opAt o xs), .bool (opTook o)]) ∧ IsTlb w' 105 50 tb g (opRow o xs) ∧ w.grownBy w' (some g) := by
  cases hr : rightB o.blk
  · have e1 : opAt o xs = 0 := by unfold opAt; simp [hr]
    have e2 : opTook o = false := by unfold opTook; simp [hr]
    have e3 : opRow o xs = xs := by unfold opRow; simp [hr, hk]
    rw [e1, e2, e3]
    have hbo := ho.b
    obtain ⟨kind, va, n, blk, drop⟩ := o
    simp only at hk hr hbo
    subst hk
    clear e1 e2 e3 ho
    have h1 := h.below ((Below.refl _ _).alloc (Nat.le_refl _) (.cells #[.int .i64 (Op10.mk 2 va n blk drop).kind, .int .u32 (Op10.mk 2 va n blk drop).va, .int .i64 (Op10.mk 2 va n blk drop).n, .int .i64 (Op10.mk 2 va n blk drop).blk.asid, .int .i64 (Op10.mk 2 va n blk drop).blk.size, .int .u32 (Op10.mk 2 va n blk drop).blk.va, .int .u64 (Op10.mk 2 va n blk drop).blk.pa, .int .i64 (Op10.mk 2 va n blk drop).blk.dom, .int .i64 (Op10.mk 2 va n blk drop).blk.ap, .int .u32 (Op10.mk 2 va n blk drop).blk.bits, .bool (Op10.mk 2 va n blk drop).blk.ng, .bool (Op10.mk 2 va n blk drop).blk.xn, .int .i64 (Op10.mk 2 va n blk drop).drop.kind, .int .u32 (Op10.mk 2 va n blk drop).drop.va, .int .i64 (Op10.mk 2 va n blk drop).drop.asid] 44))
    go_enter Tryd.func26, Tryd.ntmps26
    go_wp2_with (first | (go_at_call 53; refine (tlb_Put_no blk hbo hr ⟨tb, 0, none⟩ n _ (hs.alloc _)).mono ?_; rintro e w1 ⟨rfl, hb1⟩) | (go_at_call 33; refine (no_is _ _).mono ?_; rintro e w2 ⟨rfl, rfl⟩))
    go_ret2
    exact ⟨rfl, h1.below hb1, gbox (grown_of hb1 _)⟩
  · have e1 : opAt o xs = (putAt o.blk xs o.n : Nat) := by unfold opAt; simp [hr, hk]
    have e2 : opTook o = true := by unfold opTook; simp [hr, hk]
    have e3 : opRow o xs = putRow o.blk xs o.n := by unfold opRow; simp [hr, hk]
    rw [e1, e2, e3]
    have hbo := ho.b
    have hn0 := ho.n0
    have hn1 := ho.n1
    obtain ⟨kind, va, n, blk, drop⟩ := o
    simp only at hk hr hbo hn0 hn1
    subst hk
    clear e1 e2 e3 ho
    have h1 := h.below ((Below.refl _ _).alloc (Nat.le_refl _) (.cells #[.int .i64 (Op10.mk 2 va n blk drop).kind, .int .u32 (Op10.mk 2 va n blk drop).va, .int .i64 (Op10.mk 2 va n blk drop).n, .int .i64 (Op10.mk 2 va n blk drop).blk.asid, .int .i64 (Op10.mk 2 va n blk drop).blk.size, .int .u32 (Op10.mk 2 va n blk drop).blk.va, .int .u64 (Op10.mk 2 va n blk drop).blk.pa, .int .i64 (Op10.mk 2 va n blk drop).blk.dom, .int .i64 (Op10.mk 2 va n blk drop).blk.ap, .int .u32 (Op10.mk 2 va n blk drop).blk.bits, .bool (Op10.mk 2 va n blk drop).blk.ng, .bool (Op10.mk 2 va n blk drop).blk.xn, .int .i64 (Op10.mk 2 va n blk drop).drop.kind, .int .u32 (Op10.mk 2 va n blk drop).drop.va, .int .i64 (Op10.mk 2 va n blk drop).drop.asid] 44))
    go_enter Tryd.func26, Tryd.ntmps26
    go_wp2_with (first | (go_at_call 53; refine (tlb_Put_yes blk hbo hr tb g xs n hn0 hn1 _ (hs.alloc _) h1).mono ?_; rintro e w1 ⟨rfl, hb1, hg1⟩) | (go_at_call 33; refine (no_is _ _).mono ?_; rintro e w2 ⟨rfl, rfl⟩))
    go_ret2
    exact ⟨rfl, h1.to hb1 hg1 (putRow_len _ _ _), gbox hg1⟩
set_option maxHeartbeats 3200000 in
theorem does_3 (hk : o.kind = 3) : Calls Tryd.prog 26 #[.pointer (some ⟨tb, 0, none⟩), (.agg #[.int .i64 o.kind, .int .u32 o.va, .int .i64 o.n, .int .i64 o.blk.asid, .int .i64 o.blk.size, .int .u32 o.blk.va, .int .u64 o.blk.pa, .int .i64 o.blk.dom, .int .i64 o.blk.ap, .int .u32 o.blk.bits, .bool o.blk.ng, .bool o.blk.xn, .int .i64 o.drop.kind, .int .u32 o.drop.va, .int .i64 o.drop.asid])] w fun e w' => e = .returned (.tuple #[.int .i64 (opAt o xs), .bool (opTook o)]) ∧ IsTlb w' 105 50 tb g (opRow o xs) ∧ w.grownBy w' (some g) := by
  have e1 : opAt o xs = 0 := by unfold opAt; simp [hk]
  have e2 : opTook o = false := by unfold opTook; simp [hk]
  rw [e1, e2]
  by_cases hn : 0 ≤ o.n ∧ o.n < xs.length
  · have e3 : opRow o xs = xs.set o.n.toNat zslot := by unfold opRow; simp [hk, hn]
    rw [e3]
    obtain ⟨kind, va, n, blk, drop⟩ := o
    simp only at hk hn
    subst hk
    obtain ⟨i, rfl⟩ := Int.eq_ofNat_of_zero_le hn.1
    have hlt : i < xs.length := by omega
    obtain ⟨s, hsi⟩ : ∃ s, xs[i]? = some s := ⟨_, List.getElem?_eq_getElem hlt⟩
    clear e1 e2 e3 hn
    have h1 := h.below ((Below.refl _ _).alloc (Nat.le_refl _) (.cells #[.int .i64 (Op10.mk 3 va i blk drop).kind, .int .u32 (Op10.mk 3 va i blk drop).va, .int .i64 (Op10.mk 3 va i blk drop).n, .int .i64 (Op10.mk 3 va i blk drop).blk.asid, .int .i64 (Op10.mk 3 va i blk drop).blk.size, .int .u32 (Op10.mk 3 va i blk drop).blk.va, .int .u64 (Op10.mk 3 va i blk drop).blk.pa, .int .i64 (Op10.mk 3 va i blk drop).blk.dom, .int .i64 (Op10.mk 3 va i blk drop).blk.ap, .int .u32 (Op10.mk 3 va i blk drop).blk.bits, .bool (Op10.mk 3 va i blk drop).blk.ng, .bool (Op10.mk 3 va i blk drop).blk.xn, .int .i64 (Op10.mk 3 va i blk drop).drop.kind, .int .u32 (Op10.mk 3 va i blk drop).drop.va, .int .i64 (Op10.mk 3 va i blk drop).drop.asid] 44))
    have ev := tlb_Evict_yes tb g xs i s hsi _ h1
    have EV := Lib.hid ev
    clear hsi ev
    go_enter Tryd.func26, Tryd.ntmps26
    go_wp2_with (go_at_call 61; refine EV.out.mono ?_; rintro e w1 ⟨rfl, hg1, hb1⟩)
    go_ret2
    exact ⟨rfl, h1.to hb1 hg1 (by simp), gbox hg1⟩
  · have e3 : opRow o xs = xs := by unfold opRow; simp [hk, hn]
    rw [e3]
    obtain ⟨kind, va, n, blk, drop⟩ := o
    simp only at hk hn
    subst hk
    have hno : n < 0 ∨ (xs.length : Int) ≤ n := by omega
    clear e1 e2 e3 hn
    have h1 := h.below ((Below.refl _ _).alloc (Nat.le_refl _) (.cells #[.int .i64 (Op10.mk 3 va n blk drop).kind, .int .u32 (Op10.mk 3 va n blk drop).va, .int .i64 (Op10.mk 3 va n blk drop).n, .int .i64 (Op10.mk 3 va n blk drop).blk.asid, .int .i64 (Op10.mk 3 va n blk drop).blk.size, .int .u32 (Op10.mk 3 va n blk drop).blk.va, .int .u64 (Op10.mk 3 va n blk drop).blk.pa, .int .i64 (Op10.mk 3 va n blk drop).blk.dom, .int .i64 (Op10.mk 3 va n blk drop).blk.ap, .int .u32 (Op10.mk 3 va n blk drop).blk.bits, .bool (Op10.mk 3 va n blk drop).blk.ng, .bool (Op10.mk 3 va n blk drop).blk.xn, .int .i64 (Op10.mk 3 va n blk drop).drop.kind, .int .u32 (Op10.mk 3 va n blk drop).drop.va, .int .i64 (Op10.mk 3 va n blk drop).drop.asid] 44))
    have EV := Lib.hid (tlb_Evict_no tb g xs n hno _ h1)
    clear hno
    go_enter Tryd.func26, Tryd.ntmps26
    go_wp2_with (go_at_call 61; refine EV.out.mono ?_; rintro e w1 ⟨rfl, rfl⟩)
    go_ret2
    exact ⟨rfl, h1, gbox (World.grownBy.refl _ _)⟩
set_option maxHeartbeats 3200000 in
include hok hg0 hs in
theorem does_4 (hk : o.kind = 4) : Calls Tryd.prog 26 #[.pointer (some ⟨tb, 0, none⟩), (.agg #[.int .i64 o.kind, .int .u32 o.va, .int .i64 o.n, .int .i64 o.blk.asid, .int .i64 o.blk.size, .int .u32 o.blk.va, .int .u64 o.blk.pa, .int .i64 o.blk.dom, .int .i64 o.blk.ap, .int .u32 o.blk.bits, .bool o.blk.ng, .bool o.blk.xn, .int .i64 o.drop.kind, .int .u32 o.drop.va, .int .i64 o.drop.asid])] w fun e w' => e = .returned (.tuple #[.int .i64 (opAt o xs), .bool (opTook o)]) ∧ IsTlb w' 105 50 tb g (opRow o xs) ∧ w.grownBy w' (some g) := by
  have e1 : opAt o xs = 0 := by unfold opAt; simp [hk]
  have e2 : opTook o = false := by unfold opTook; simp [hk]
  have e3 : opRow o xs = dropRow o.drop xs := by unfold opRow; simp [hk]
  rw [e1, e2, e3]
  obtain ⟨kind, va, n, blk, drop⟩ := o
  simp only at hk
  subst hk
  clear e1 e2 e3
  have h1 := h.below ((Below.refl _ _).alloc (Nat.le_refl _) (.cells #[.int .i64 (Op10.mk 4 va n blk drop).kind, .int .u32 (Op10.mk 4 va n blk drop).va, .int .i64 (Op10.mk 4 va n blk drop).n, .int .i64 (Op10.mk 4 va n blk drop).blk.asid, .int .i64 (Op10.mk 4 va n blk drop).blk.size, .int .u32 (Op10.mk 4 va n blk drop).blk.va, .int .u64 (Op10.mk 4 va n blk drop).blk.pa, .int .i64 (Op10.mk 4 va n blk drop).blk.dom, .int .i64 (Op10.mk 4 va n blk drop).blk.ap, .int .u32 (Op10.mk 4 va n blk drop).blk.bits, .bool (Op10.mk 4 va n blk drop).blk.ng, .bool (Op10.mk 4 va n blk drop).blk.xn, .int .i64 (Op10.mk 4 va n blk drop).drop.kind, .int .u32 (Op10.mk 4 va n blk drop).drop.va, .int .i64 (Op10.mk 4 va n blk drop).drop.asid] 44))
  have EV := Lib.hid (tlb_Flush_is drop tb g xs hok hg0 _ (hs.alloc _) h1)
  clear hg0
  go_enter Tryd.func26, Tryd.ntmps26
  go_wp2_with (go_at_call 55; refine EV.out.mono ?_; rintro e w1 ⟨rfl, hb1, hg1⟩)
  go_ret2
  exact ⟨rfl, h1.to hb1 hg1 (by simp [dropRow]), gbox hg1⟩
set_option maxHeartbeats 3200000 in
theorem does_5 (hk1 : (o.kind == 1) = false) (hk2 : (o.kind == 2) = false) (hk3 : (o.kind == 3) = false) (hk4 : (o.kind == 4) = false) : Calls Tryd.prog 26 #[.pointer (some ⟨tb, 0, none⟩), (.agg #[.int .i64 o.kind, .int .u32 o.va, .int .i64 o.n, .int .i64 o.blk.asid, .int .i64 o.blk.size, .int .u32 o.blk.va, .int .u64 o.blk.pa, .int .i64 o.blk.dom, .int .i64 o.blk.ap, .int .u32 o.blk.bits, .bool o.blk.ng, .bool o.blk.xn, .int .i64 o.drop.kind, .int .u32 o.drop.va, .int .i64 o.drop.asid])] w fun e w' => e = .returned (.tuple #[.int .i64 0, .bool false]) ∧ IsTlb w' 105 50 tb g xs ∧ w.grownBy w' (some g) := by
  have h1 := h.below ((Below.refl _ _).alloc (Nat.le_refl _) (.cells #[.int .i64 o.kind, .int .u32 o.va, .int .i64 o.n, .int .i64 o.blk.asid, .int .i64 o.blk.size, .int .u32 o.blk.va, .int .u64 o.blk.pa, .int .i64 o.blk.dom, .int .i64 o.blk.ap, .int .u32 o.blk.bits, .bool o.blk.ng, .bool o.blk.xn, .int .i64 o.drop.kind, .int .u32 o.drop.va, .int .i64 o.drop.asid] 44))
  go_enter Tryd.func26, Tryd.ntmps26
  go_wp2
  go_ret2
  exact ⟨rfl, h1, gbox (World.grownBy.refl _ _)⟩
include ho hok hg0 hs in
theorem does_is : Calls Tryd.prog 26 #[.pointer (some ⟨tb, 0, none⟩), (.agg #[.int .i64 o.kind, .int .u32 o.va, .int .i64 o.n, .int .i64 o.blk.asid, .int .i64 o.blk.size, .int .u32 o.blk.va, .int .u64 o.blk.pa, .int .i64 o.blk.dom, .int .i64 o.blk.ap, .int .u32 o.blk.bits, .bool o.blk.ng, .bool o.blk.xn, .int .i64 o.drop.kind, .int .u32 o.drop.va, .int .i64 o.drop.asid])] w fun e w' => e = .returned (.tuple #[.int .i64 (opAt o xs), .bool (opTook o)]) ∧ IsTlb w' 105 50 tb g (opRow o xs) ∧ w.grownBy w' (some g) := by
  by_cases h1 : o.kind = 1
  · exact does_1 o tb g xs hok w hs h h1
  by_cases h2 : o.kind = 2
  · exact does_2 o ho tb g xs w hs h h2
  by_cases h3 : o.kind = 3
  · exact does_3 o tb g xs w h h3
  by_cases h4 : o.kind = 4
  · exact does_4 o tb g xs hok hg0 w hs h h4
  have e1 : opAt o xs = 0 := by unfold opAt; simp [h2]
  have e2 : opTook o = false := by unfold opTook; simp [h2]
  have e3 : opRow o xs = xs := by unfold opRow; simp [h1, h2, h3, h4]
  rw [e1, e2, e3]
  exact does_5 o tb g xs w h (beq_eq_false_iff_ne.2 h1) (beq_eq_false_iff_ne.2 h2) (beq_eq_false_iff_ne.2 h3) (beq_eq_false_iff_ne.2 h4)
end
def pressN (p : Int) : Nat := if 1 + p.tmod 8 < 1 then (1 - p.tmod 8).toNat else (1 + p.tmod 8).toNat
theorem pressN_pos (p : Int) : 1 ≤ pressN p ∧ pressN p ≤ 8 := by
  unfold pressN
  have := tmod_pick p 8 (by omega)
  split <;> omega
set_option maxHeartbeats 1600000 in
theorem pressed_is (p : Int) (w : World) : Calls Tryd.prog 24 #[.int .i64 p] w fun e w' => e = .returned (.tuple #[.pointer (some ⟨w.heap.size + 1, 0, none⟩), .int .i64 (pressN p)]) ∧ IsTlb w' 105 50 (w.heap.size + 1) w.heap.size (newRow (pressN p)) ∧ Below w.heap.size w w' := by
  obtain ⟨m, hm⟩ : ∃ m, p.tmod 8 = m := ⟨_, rfl⟩
  have hb := tmod_pick p 8 (by omega)
  rw [hm] at hb
  obtain ⟨-, -, h1, h2⟩ := hb
  obtain ⟨n, hn⟩ : ∃ n, pressN p = n := ⟨_, rfl⟩
  have hp := pressN_pos p
  rw [hn] at hp ⊢
  unfold pressN at hn
  rw [hm] at hn
  by_cases c : m < 0
  · rw [if_pos (by omega)] at hn
    have N := Lib.hid (show ∀ z : Int, z = n → Calls Tryd.prog 31 #[.int .i64 z] w _ from fun z hz => by rw [hz]; exact tlb_New_yes n hp.1 (by omega) w)
    have N' := hn
    clear hn
    go_enter Tryd.func24, Tryd.ntmps24
    go_wp2_with (first | (go_at_call 31; refine (N.out _ ?hz).mono ?_; (case hz => omega); rintro e w1 ⟨rfl, ht1, hb1⟩) | (go_at_call 33; refine (no_is _ _).mono ?_; rintro e w2 ⟨rfl, rfl⟩))
    go_ret2
    exact ⟨by simp; omega, ht1, hb1⟩
  · rw [if_neg (by omega)] at hn
    have N := Lib.hid (show ∀ z : Int, z = n → Calls Tryd.prog 31 #[.int .i64 z] w _ from fun z hz => by rw [hz]; exact tlb_New_yes n hp.1 (by omega) w)
    have N' := hn
    clear hn
    go_enter Tryd.func24, Tryd.ntmps24
    go_wp2_with (first | (go_at_call 31; refine (N.out _ ?hz).mono ?_; (case hz => omega); rintro e w1 ⟨rfl, ht1, hb1⟩) | (go_at_call 33; refine (no_is _ _).mono ?_; rintro e w2 ⟨rfl, rfl⟩))
    go_ret2
    exact ⟨by simp; omega, ht1, hb1⟩
end Go.Proofs.YtngcpcgioophcaaDoor
