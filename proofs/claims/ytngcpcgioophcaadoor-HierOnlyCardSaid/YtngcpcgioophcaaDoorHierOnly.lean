/- Plain words of layer 11: places that hold blocks of a list alone, none twice; what Find, Keep, Evict and Drop make of them. No program is walked here. Lists of blocks in memory; the laws' among, apart and without of layer 11, over every list and block. How an argument that is a slice of flat elements reads: each element's cells lie one behind the other; blocks, ints. Arguments of HierOrder: lists of blocks and of numbers as they read; two groups of three TLBs and a list that is kept beside them. Plain words of HierOrder: which block is taken, what has been asked for. The law's without of layer 11: the blocks of a list that a dropping does not take. Plain words of HierOnly: what is kept beside the three TLBs; the first block is kept and found. The walk of the law HierOnly of layer 11. For all sizes and every script the law HierOnly answers true, and its arguments read as they did. -/
import Derived.Test.YtngcpcgioophcaaDoorHier
import Derived.Test.YtngcpcgioophcaaDoorPlayO
import Derived.Test.YtngcpcgioophcaaDoorRead
import Derived.SizedLaws
import Derived.IntWalk
import Derived.Test.YtngcpcgioophcaaDoorTie
import Derived.Deep.DeepHandedRow
import Derived.ChangeOld
import Derived.Below
namespace Go.Proofs.YtngcpcgioophcaaDoor

def mt (va asid : Int) (s : Slot) : Bool := s.full && overB s.blk va asid
theorem lookF_gen (va asid : Int) : ∀ (xs : List Slot) (p : Blk × Nat), (xs.foldl (lookS va asid) p).2 = p.2 + (xs.filter (mt va asid)).length ∧ (xs.filter (mt va asid) = [] → (xs.foldl (lookS va asid) p).1 = p.1) ∧ (∀ s, xs.filter (mt va asid) = [s] → (xs.foldl (lookS va asid) p).1 = s.blk) := by
  intro xs
  induction xs with
  | nil => intro p; exact ⟨rfl, fun _ => rfl, fun s h => by cases h⟩
  | cons x xs ih =>
    intro p
    rw [List.foldl_cons]
    cases hm : mt va asid x
    · have e : lookS va asid p x = p := by unfold lookS; unfold mt at hm; rw [hm]; rfl
      rw [List.filter_cons_of_neg (by simp [hm]), e]
      exact ih p
    · have e : lookS va asid p x = (x.blk, p.2 + 1) := by unfold lookS; unfold mt at hm; rw [hm]; rfl
      rw [List.filter_cons_of_pos hm, e]
      obtain ⟨i1, i2, i3⟩ := ih (x.blk, p.2 + 1)
      refine ⟨by rw [i1]; simp only [List.length_cons]; omega, (fun h => by cases h), fun s h => ?_⟩
      obtain ⟨rfl, h2⟩ := List.cons.inj h
      exact i2 h2
theorem lookN_len (va asid : Int) (xs : List Slot) : lookN va asid xs = (xs.filter (mt va asid)).length := by
  have := (lookF_gen va asid xs (zblk, 0)).1
  unfold lookN lookF
  omega
theorem lookB_one (va asid : Int) (xs : List Slot) (h : lookN va asid xs = 1) : ∃ s ∈ xs, s.full = true ∧ overB s.blk va asid = true ∧ lookB va asid xs = s.blk := by
  have hl := lookN_len va asid xs
  rw [h] at hl
  obtain ⟨s, hs⟩ := List.length_eq_one_iff.1 hl.symm
  have hm : s ∈ xs.filter (mt va asid) := by rw [hs]; exact List.mem_singleton.2 rfl
  obtain ⟨h1, h2⟩ := List.mem_filter.1 hm
  unfold mt at h2
  rw [Bool.and_eq_true] at h2
  refine ⟨s, h1, h2.1, h2.2, ?_⟩
  unfold lookB
  unfold lookN at h
  rw [if_pos h]
  exact (lookF_gen va asid xs (zblk, 0)).2.2 s hs
theorem lookB_no1 (va asid : Int) (xs : List Slot) (h : lookN va asid xs ≠ 1) : lookB va asid xs = zblk := by
  unfold lookB; unfold lookN at h; rw [if_neg h]
/-- what is held is among these -/
def OnlyL (L : List Blk) (xs : List Slot) : Prop := ∀ s ∈ xs, s.full = true → s.blk ∈ L
def NoDbl (xs : List Slot) : Prop := ∀ b, (xs.filter (same b)).length ≤ 1
theorem filter_set {α : Type} (p : α → Bool) (s : α) : ∀ (xs : List α) (i : Nat), ((xs.set i s).filter p).length ≤ (xs.filter p).length + (if p s = true then 1 else 0) := by
  intro xs
  induction xs with
  | nil => intro i; simp
  | cons x xs ih =>
    intro i
    cases i with
    | zero =>
      simp only [List.set_cons_zero, List.filter_cons]
      cases p s <;> cases p x <;> simp
    | succ i =>
      simp only [List.set_cons_succ, List.filter_cons]
      have := ih i
      cases p x <;> simp <;> omega
theorem NoDbl.set_ {xs : List Slot} (h : NoDbl xs) (i : Nat) (s : Slot) (hs : ∀ b, same b s = true → (xs.filter (same b)).length = 0) : NoDbl (xs.set i s) := by
  intro b
  have h1 := filter_set (same b) s xs i
  have h2 := h b
  have h3 := hs b
  split at h1
  · rename_i hb; have := h3 hb; omega
  · omega
theorem zslot_no (b : Blk) : same b zslot = false := rfl
theorem NoDbl.empty {xs : List Slot} (h : NoDbl xs) (i : Nat) : NoDbl (xs.set i zslot) := h.set_ i zslot (fun b hb => by rw [zslot_no] at hb; cases hb)
theorem find_none {b : Blk} {xs : List Slot} (h : findB b xs = none) : (xs.filter (same b)).length = 0 := by
  unfold findB at h
  rw [List.findIdx?_eq_none_iff] at h
  rw [List.length_eq_zero_iff, List.filter_eq_nil_iff]
  intro s hs
  rw [h s hs]
  decide
theorem same_eq {b c : Blk} {f : Bool} (h : same b ⟨f, c⟩ = true) : c = b ∧ f = true := by
  unfold same at h
  rw [Bool.and_eq_true] at h
  exact ⟨(Blk.eqB_iff _ _).1 h.2, h.1⟩
theorem NoDbl.putRow {xs : List Slot} (h : NoDbl xs) (b : Blk) (p : Int) : NoDbl (putRow b xs p) := by
  unfold Go.Proofs.YtngcpcgioophcaaDoor.putRow
  split
  · exact h
  · rename_i hf
    refine h.set_ _ _ (fun c hc => ?_)
    rw [← (same_eq hc).1]
    exact find_none hf
theorem NoDbl.putAny {xs : List Slot} (h : NoDbl xs) (b : Blk) (p : Int) : NoDbl (putAny b xs p) := by
  unfold Go.Proofs.YtngcpcgioophcaaDoor.putAny; split
  · exact h.putRow b p
  · exact h
theorem NoDbl.takeRow {xs : List Slot} (h : NoDbl xs) (b : Blk) (va asid p : Int) : NoDbl (takeRow b va asid p xs) := by
  unfold Go.Proofs.YtngcpcgioophcaaDoor.takeRow; split
  · exact h.putAny b p
  · exact h
theorem OnlyL.mono {L M : List Blk} {xs : List Slot} (h : OnlyL L xs) (hs : ∀ b ∈ L, b ∈ M) : OnlyL M xs := fun s a b => hs _ (h s a b)
theorem OnlyL.set_ {L : List Blk} {xs : List Slot} (h : OnlyL L xs) (i : Nat) (s : Slot) (hs : s.full = true → s.blk ∈ L) : OnlyL L (xs.set i s) := by
  intro t ht hf
  rcases List.mem_or_eq_of_mem_set ht with h1 | h1
  · exact h t h1 hf
  · subst h1; exact hs hf
theorem OnlyL.putAny {L : List Blk} {xs : List Slot} (h : OnlyL L xs) (b : Blk) (hb : b ∈ L) (p : Int) : OnlyL L (putAny b xs p) := by
  unfold Go.Proofs.YtngcpcgioophcaaDoor.putAny; split
  · unfold Go.Proofs.YtngcpcgioophcaaDoor.putRow
    split
    · exact h
    · exact h.set_ _ _ (fun _ => hb)
  · exact h
theorem OnlyL.takeRow {L : List Blk} {xs : List Slot} (h : OnlyL L xs) (b : Blk) (hb : b ∈ L) (va asid p : Int) : OnlyL L (takeRow b va asid p xs) := by
  unfold Go.Proofs.YtngcpcgioophcaaDoor.takeRow; split
  · exact h.putAny b hb p
  · exact h
theorem OnlyL.dropRow {L : List Blk} {xs : List Slot} (h : OnlyL L xs) (d : Tlbi) : OnlyL (L.filter (fun b => !takesB d b)) (dropRow d xs) := by
  intro s hs hf
  obtain ⟨t, ht, rfl⟩ := List.mem_map.1 hs
  unfold drop1 at hf ⊢
  split at hf
  · cases hf
  · rename_i hh
    rw [if_neg hh]
    refine List.mem_filter.2 ⟨h t ht hf, ?_⟩
    unfold hit at hh
    rw [hf] at hh
    simpa using hh
theorem newRow_only (n : Nat) (L : List Blk) : OnlyL L (newRow n) := fun s hs hf => by rw [List.eq_of_mem_replicate hs] at hf; cases hf
theorem newRow_nodbl (n : Nat) : NoDbl (newRow n) := fun b => by
  have : (newRow n).filter (same b) = [] := List.filter_eq_nil_iff.2 (fun s hs => by rw [List.eq_of_mem_replicate hs, zslot_no]; decide)
  rw [this]; decide
def Only3 (L : List Blk) (xs : Nat → List Slot) : Prop := ∀ k, 1 ≤ k → k ≤ 3 → OnlyL L (xs k)
def Nod3 (xs : Nat → List Slot) : Prop := ∀ k, 1 ≤ k → k ≤ 3 → NoDbl (xs k)
theorem Only3.upd {L : List Blk} {xs : Nat → List Slot} (h : Only3 L xs) (k : Nat) {ys : List Slot} (hy : OnlyL L ys) : Only3 L (upd xs k ys) := fun j a b => by
  by_cases e : j = k
  · subst e; rw [upd_at]; exact hy
  · rw [upd_ne _ _ _ _ e]; exact h j a b
theorem Nod3.upd {xs : Nat → List Slot} (h : Nod3 xs) (k : Nat) {ys : List Slot} (hy : NoDbl ys) : Nod3 (upd xs k ys) := fun j a b => by
  by_cases e : j = k
  · subst e; rw [upd_at]; exact hy
  · rw [upd_ne _ _ _ _ e]; exact h j a b
theorem Only3.mono {L M : List Blk} {xs : Nat → List Slot} (h : Only3 L xs) (hs : ∀ b ∈ L, b ∈ M) : Only3 M xs := fun k a b => (h k a b).mono hs
theorem keepR_only {L : List Blk} {xs : Nat → List Slot} (h : Only3 L xs) (b : Blk) (hb : b ∈ L) (va asid : Int) (f : Bool) (p : Int) : Only3 L (keepR xs b va asid f p) := by
  obtain ⟨s1, s3, _⟩ := sm_le f
  unfold keepR; split
  · exact (h.upd _ ((h 3 (by omega) (by omega)).takeRow b hb _ _ _)).upd _ ((h _ s1 s3).takeRow b hb _ _ _)
  · exact h
theorem keepR_nod {xs : Nat → List Slot} (h : Nod3 xs) (b : Blk) (va asid : Int) (f : Bool) (p : Int) : Nod3 (keepR xs b va asid f p) := by
  obtain ⟨s1, s3, _⟩ := sm_le f
  unfold keepR; split
  · exact (h.upd _ ((h 3 (by omega) (by omega)).takeRow b _ _ _)).upd _ ((h _ s1 s3).takeRow b _ _ _)
  · exact h
theorem findR_only {L : List Blk} {xs : Nat → List Slot} (h : Only3 L xs) (va asid : Int) (f : Bool) (p : Int) (mf : Bool) : Only3 L (findR xs va asid f p mf).2.2 := by
  obtain ⟨s1, s3, _⟩ := sm_le f
  unfold findR
  split
  · dsimp only
    split
    · rename_i hh
      obtain ⟨s, hs, hf, _, hb⟩ := lookB_one _ _ _ hh.1
      refine h.upd _ ((h _ s1 s3).putAny _ ?_ _)
      rw [hb]; exact h 3 (by omega) (by omega) s hs hf
    · exact h
  · exact h
theorem findR_nod {xs : Nat → List Slot} (h : Nod3 xs) (va asid : Int) (f : Bool) (p : Int) (mf : Bool) : Nod3 (findR xs va asid f p mf).2.2 := by
  obtain ⟨s1, s3, _⟩ := sm_le f
  unfold findR
  split
  · dsimp only
    split
    · exact h.upd _ ((h _ s1 s3).putAny _ _)
    · exact h
  · exact h
theorem many_one (n : Nat) : (many n = 1 ↔ n = 1) ∧ many n ≤ 2 := by unfold many; split <;> omega
/-- what Find answers -/
theorem findR_one {L : List Blk} {xs : Nat → List Slot} (h : Only3 L xs) (va asid : Int) (f : Bool) (p : Int) (mf : Bool) (h1 : (findR xs va asid f p mf).2.1 = 1) : (findR xs va asid f p mf).1 ∈ L ∧ overB (findR xs va asid f p mf).1 va asid = true := by
  obtain ⟨s1, s3, _⟩ := sm_le f
  unfold findR at h1 ⊢
  split at h1
  · rename_i hc
    rw [if_pos hc]
    obtain ⟨s, hs, hf, ho, hb⟩ := lookB_one _ _ _ ((many_one _).1.1 h1)
    dsimp only
    rw [hb]
    exact ⟨h 3 (by omega) (by omega) s hs hf, ho⟩
  · rename_i hc
    rw [if_neg hc]
    obtain ⟨s, hs, hf, ho, hb⟩ := lookB_one _ _ _ ((many_one _).1.1 h1)
    dsimp only
    rw [hb]
    exact ⟨h _ s1 s3 s hs hf, ho⟩
theorem findR_not (xs : Nat → List Slot) (va asid : Int) (f : Bool) (p : Int) (mf : Bool) (h1 : (findR xs va asid f p mf).2.1 ≠ 1) : (findR xs va asid f p mf).1 = zblk := by
  unfold findR at h1 ⊢
  split at h1
  · rename_i hc
    rw [if_pos hc]
    exact lookB_no1 _ _ _ (fun c => h1 ((many_one _).1.2 c))
  · rename_i hc
    rw [if_neg hc]
    exact lookB_no1 _ _ _ (fun c => h1 ((many_one _).1.2 c))
theorem findR_le2 (xs : Nat → List Slot) (va asid : Int) (f : Bool) (p : Int) (mf : Bool) : (findR xs va asid f p mf).2.1 ≤ 2 := by
  unfold findR
  split <;> exact (many_one _).2
/-- blocks that lie over no common address -/
def apartB (a b : Blk) : Bool := decide (a.va + bytesOf a.size ≤ b.va) || decide (b.va + bytesOf b.size ≤ a.va)
def Apart2 (L : List Blk) : Prop := ∀ b ∈ L, ∀ c ∈ L, b ≠ c → apartB b c = true
theorem over_covers {b : Blk} (hb : b.Ok) {va asid : Int} (v0 : 0 ≤ va) (v1 : va ≤ 4294967295) (h : overB b va asid = true) : b.va ≤ va ∧ va < b.va + bytesOf b.size := by
  unfold overB coversB at h
  simp only [Bool.and_eq_true, decide_eq_true_eq] at h
  have := hb.va0
  have := hb.va1
  obtain ⟨⟨_, h1, h2⟩, _⟩ := h
  rw [Int.emod_eq_of_lt (by omega) (by omega)] at h2
  omega
theorem apart_eq {L : List Blk} (hA : Apart2 L) (hok : ∀ b ∈ L, b.Ok) {b c : Blk} (hb : b ∈ L) (hc : c ∈ L) {va a1 a2 : Int} (v0 : 0 ≤ va) (v1 : va ≤ 4294967295) (h1 : overB b va a1 = true) (h2 : overB c va a2 = true) : b = c := by
  by_cases e : b = c
  · exact e
  · exfalso
    have x := over_covers (hok b hb) v0 v1 h1
    have y := over_covers (hok c hc) v0 v1 h2
    have z := hA b hb c hc e
    unfold apartB at z
    simp only [Bool.or_eq_true, decide_eq_true_eq] at z
    omega
theorem look_le1 {L : List Blk} (hA : Apart2 L) (hok : ∀ b ∈ L, b.Ok) {xs : List Slot} (ho : OnlyL L xs) (hn : NoDbl xs) {va asid : Int} (v0 : 0 ≤ va) (v1 : va ≤ 4294967295) : lookN va asid xs ≤ 1 := by
  rw [lookN_len]
  match hm : xs.filter (mt va asid) with
  | [] => simp
  | [s] => simp
  | a :: b :: r =>
    exfalso
    have ma : a ∈ xs.filter (mt va asid) := by rw [hm]; simp
    have mb : b ∈ xs.filter (mt va asid) := by rw [hm]; simp
    obtain ⟨a1, a2⟩ := List.mem_filter.1 ma
    obtain ⟨b1, b2⟩ := List.mem_filter.1 mb
    unfold mt at a2 b2
    rw [Bool.and_eq_true] at a2 b2
    have e := apart_eq hA hok (ho a a1 a2.1) (ho b b1 b2.1) v0 v1 a2.2 b2.2
    have sub : [a, b].Sublist xs := by
      have h1 : [a, b].Sublist (xs.filter (mt va asid)) := by rw [hm]; exact List.Sublist.cons_cons _ (List.Sublist.cons_cons _ (List.nil_sublist _))
      exact h1.trans List.filter_sublist
    have sub2 := sub.filter (same a.blk)
    have ea : same a.blk a = true := by unfold same; rw [a2.1, Blk.eqB_self]; rfl
    have eb : same a.blk b = true := by unfold same; rw [b2.1, e, Blk.eqB_self]; rfl
    have : [a, b].filter (same a.blk) = [a, b] := by simp [ea, eb]
    rw [this] at sub2
    have y1 := sub2.length_le
    have y2 := hn a.blk
    have y3 : [a, b].length = 2 := rfl
    omega
theorem findR_le1 {L : List Blk} (hA : Apart2 L) (hok : ∀ b ∈ L, b.Ok) {xs : Nat → List Slot} (ho : Only3 L xs) (hn : Nod3 xs) {va asid : Int} (v0 : 0 ≤ va) (v1 : va ≤ 4294967295) (f : Bool) (p : Int) (mf : Bool) : (findR xs va asid f p mf).2.1 ≤ 1 := by
  obtain ⟨s1, s3, _⟩ := sm_le f
  have m : ∀ n, n ≤ 1 → many n ≤ 1 := fun n h => by unfold many; split <;> omega
  unfold findR
  split
  · exact m _ (look_le1 hA hok (ho 3 (by omega) (by omega)) (hn 3 (by omega) (by omega)) v0 v1)
  · exact m _ (look_le1 hA hok (ho _ s1 s3) (hn _ s1 s3) v0 v1)
end Go.Proofs.YtngcpcgioophcaaDoor

namespace Go.Proofs.YtngcpcgioophcaaDoor
open Go.RowKit

def bkFlat (L : List Blk) : List Value := L.flatMap blkCells
theorem blkCells_len9 (b : Blk) : (blkCells b).length = 9 := rfl
theorem bkFlat_len (L : List Blk) : (bkFlat L).length = L.length * 9 := by
  induction L with
  | nil => rfl
  | cons x L ih => simp only [bkFlat, List.flatMap_cons, List.length_append, List.length_cons, blkCells_len9] at ih ⊢; omega
theorem bkFlat_at (L : List Blk) : ∀ (i j : Nat) (s : Blk), L[i]? = some s → j < 9 → (bkFlat L)[i * 9 + j]? = (blkCells s)[j]? := by
  induction L with
  | nil => intro i j s h; simp at h
  | cons x L ih =>
    intro i j s h hj
    simp only [bkFlat, List.flatMap_cons]
    cases i with
    | zero =>
      simp at h; subst h
      rw [List.getElem?_append_left (by rw [blkCells_len9]; omega)]; simp
    | succ i =>
      rw [List.getElem?_append_right (by rw [blkCells_len9]; omega), blkCells_len9]
      have e : (i + 1) * 9 + j - 9 = i * 9 + j := by omega
      rw [e]
      exact ih i j s (by simpa using h) hj
theorem bkFlat_snoc (L : List Blk) (b : Blk) : bkFlat (L ++ [b]) = bkFlat L ++ blkCells b := by simp [bkFlat]
theorem blk_info : (Tryd.prog.info? 29).map (fun i => (i.zero, i.size, i.bytes)) = some (some (.agg #[.int .i64 0, .int .i64 0, .int .u32 0, .int .u64 0, .int .i64 0, .int .i64 0, .int .u32 0, .bool false, .bool false]), 9, 56) := by kernel_rfl
/-- a slice that reads as a list of blocks -/
def BSl (w : World) (A : Option Addr) (L : List Blk) : Prop := ∀ i b, L[i]? = some b → ∃ g k0, A = some ⟨g, k0, none⟩ ∧ g < w.heap.size ∧ ∀ j v, (blkCells b)[j]? = some v → w.cell? ⟨g, k0 + i * 9 + j, none⟩ = some v
theorem BSl.below {w w' : World} {B : Nat} {A : Option Addr} {L : List Blk} (h : BSl w A L) (hB : ∀ g k0, A = some ⟨g, k0, none⟩ → g < B) (hb : Below B w w') : BSl w' A L := fun i b hi => by
  obtain ⟨g, k0, hA, hg, hc⟩ := h i b hi
  exact ⟨g, k0, hA, Nat.lt_of_lt_of_le hg hb.size, fun j v hv => (hb.cell (hB g k0 hA)).trans (hc j v hv)⟩
theorem BSl.belowN {w w' : World} {A : Option Addr} {L : List Blk} (h : BSl w A L) (hb : Below w.heap.size w w') : BSl w' A L := fun i b hi => by
  obtain ⟨g, k0, hA, hg, hc⟩ := h i b hi
  exact ⟨g, k0, hA, Nat.lt_of_lt_of_le hg hb.size, fun j v hv => (hb.cell hg).trans (hc j v hv)⟩
theorem BSl.nil (w : World) : BSl w none [] := fun i b h => by simp at h
/-- a slice that the call owns -/
def OwnB (w : World) (base : Nat) (v : Value) (L : List Blk) : Prop := w.ownsRow base 29 9 v L.length (bkFlat L)
theorem OwnB.nil (w : World) (base : Nat) : OwnB w base (.slice none 0 0) [] := ⟨rfl, .inl ⟨rfl, rfl⟩⟩
theorem OwnB.form {w : World} {base : Nat} {v : Value} {L : List Blk} (h : OwnB w base v L) : ∃ A cap, v = .slice A L.length cap ∧ BSl w A L ∧ (∀ g k0, A = some ⟨g, k0, none⟩ → base ≤ g) ∧ L.length ≤ cap ∧ (∀ a, A = some a → ∃ g, a = ⟨g, 0, none⟩ ∧ g < w.heap.size) := by
  obtain ⟨hl, h⟩ := h
  rcases h with ⟨rfl, h0⟩ | ⟨g, cap, cur, rfl, hbg, hg, hc, _, hcs, ht⟩
  · obtain rfl : L = [] := List.eq_nil_of_length_eq_zero h0
    exact ⟨none, 0, rfl, BSl.nil w, (fun _ _ h => by cases h), Nat.le_refl _, (fun _ h => by cases h)⟩
  · have hlt : g < w.heap.size := by
      rcases Nat.lt_or_ge g w.heap.size with hlt | hge
      · exact hlt
      · rw [Array.getElem?_eq_none hge] at hg; cases hg
    refine ⟨some ⟨g, 0, none⟩, cap, rfl, fun i b hi => ⟨g, 0, rfl, hlt, fun j v hv => ?_⟩, fun g' k' e => by cases e; exact hbg, hc, fun a e => by cases e; exact ⟨g, rfl, hlt⟩⟩
    have hj : j < 9 := by have := (List.getElem?_eq_some_iff.1 hv).1; rwa [blkCells_len9] at this
    have e := bkFlat_at L i j b hi hj
    rw [hv, ← ht, List.getElem?_take] at e
    rw [Nat.zero_add, cell_of_row w g _ cur _ _ hg]
    split at e
    · simpa using e
    · cases e
theorem OwnB.keep {w w' : World} {base : Nat} {v : Value} {L : List Blk} (h : OwnB w base v L) (hk : ∀ g, v.ownBlock = some g → g < w.heap.size → w'.heap[g]? = w.heap[g]?) : OwnB w' base v L := by
  obtain ⟨hl, h⟩ := h
  refine ⟨hl, ?_⟩
  rcases h with h | ⟨g, cap, cur, rfl, hbg, hg, hr⟩
  · exact .inl h
  · have hlt : g < w.heap.size := by
      rcases Nat.lt_or_ge g w.heap.size with hlt | hge
      · exact hlt
      · rw [Array.getElem?_eq_none hge] at hg; cases hg
    exact .inr ⟨g, cap, cur, rfl, hbg, (hk g rfl hlt).trans hg, hr⟩
theorem OwnB.belowN {w w' : World} {base : Nat} {v : Value} {L : List Blk} (h : OwnB w base v L) (hb : Below w.heap.size w w') : OwnB w' base v L := h.keep (fun g _ hg => hb.block g hg)
theorem OwnB.alloc {w : World} {base : Nat} {v : Value} {L : List Blk} (h : OwnB w base v L) (o : Obj) : OwnB (w.alloc o) base v L := h.belowN ((Below.refl _ _).alloc (Nat.le_refl _) o)
theorem OwnB.drewN {w : World} {base : Nat} {v : Value} {L : List Blk} (h : OwnB w base v L) (n : Nat) : OwnB (w.drewN n) base v L := h.belowN (bdrewN (Below.refl _ _) n)
theorem OwnB.block {w : World} {base g : Nat} {v : Value} {L : List Blk} (h : OwnB w base v L) (hv : v.ownBlock = some g) : base ≤ g ∧ g < w.heap.size := by
  obtain ⟨A, cap, rfl, _, hb, _, ha⟩ := h.form
  cases A with
  | none => cases hv
  | some a =>
    obtain ⟨g', rfl, hlt⟩ := ha a rfl
    simp only [Value.ownBlock, Option.some.injEq] at hv
    subst hv
    exact ⟨hb _ _ rfl, hlt⟩
theorem oneCell_blk (b : Blk) : ∀ v ∈ blkCells b, v.oneCell' = true := fun v hs => by
  simp only [blkCells, List.mem_cons, List.not_mem_nil, or_false] at hs
  rcases hs with rfl | rfl | rfl | rfl | rfl | rfl | rfl | rfl | rfl <;> rfl
def amongB (L : List Blk) (b : Blk) : Bool := L.any (fun x => x.eqB b)
theorem amongB_mem {L : List Blk} {b : Blk} : amongB L b = true ↔ b ∈ L := by
  unfold amongB
  rw [List.any_eq_true]
  constructor
  · rintro ⟨x, hx, he⟩; rw [← (Blk.eqB_iff x b).1 he]; exact hx
  · intro h; exact ⟨b, h, Blk.eqB_self b⟩
theorem among_step (L : List Blk) (b x : Blk) (k : Nat) (h : L[k]? = some x) (hn : amongB (L.take k) b = false) (hx : x.eqB b = false) : amongB (L.take (k + 1)) b = false := by
  rw [take_snoc L k x h]; unfold amongB at *; rw [List.any_append, hn]; simp [hx]
set_option maxHeartbeats 1600000 in
set_option maxRecDepth 100000 in
theorem among_is (L : List Blk) (b : Blk) (A : Option Addr) (cap : Nat) (hl : L.length < 9223372036854775808) (w : World) (h : BSl w A L) :
    Calls Tryd.prog 42 #[.slice A L.length cap, (.agg #[.int .i64 b.asid, .int .i64 b.size, .int .u32 b.va, .int .u64 b.pa, .int .i64 b.dom, .int .i64 b.ap, .int .u32 b.bits, .bool b.ng, .bool b.xn])] w fun e w' => e = .returned (.bool (amongB L b)) ∧ Below w.heap.size w w' := by
  have hX : Blok (w.alloc (.cells #[.int .i64 b.asid, .int .i64 b.size, .int .u32 b.va, .int .u64 b.pa, .int .i64 b.dom, .int .i64 b.ap, .int .u32 b.bits, .bool b.ng, .bool b.xn] 29)) w.heap.size 29 (blkCells b) := Blok.new w _ _
  have hB0 : Below w.heap.size w (w.alloc (.cells #[.int .i64 b.asid, .int .i64 b.size, .int .u32 b.va, .int .u64 b.pa, .int .i64 b.dom, .int .i64 b.ap, .int .u32 b.bits, .bool b.ng, .bool b.xn] 29)) := (Below.refl _ _).alloc (Nat.le_refl _) _
  have h0 := h.belowN hB0
  have HR := Lib.hid (amongB_mem (L := L) (b := b))
  have HZ := Lib.hid (show amongB (L.take 0) b = false from rfl)
  go_enter Tryd.func42, Tryd.ntmps42
  go_wp2_with fail
  go_loopw [5] (fun v5 wr => ∃ k : Nat, k ≤ L.length ∧ v5 = .int .i64 k ∧ amongB (L.take k) b = false ∧ BSl wr A L ∧ Blok wr w.heap.size 29 (blkCells b) ∧ Below w.heap.size w wr) (fun v5 _ => L.length - (intOf v5).toNat)
  case atStart => exact ⟨0, Nat.zero_le _, rfl, HZ.out, h0, hX, hB0⟩
  case round =>
    obtain ⟨k, hk, rfl, hn, hS, hXr, hB⟩ := hrel
    clear h0 hX hB0
    by_cases hlt : k < L.length
    · obtain ⟨x, hx⟩ : ∃ x, L[k]? = some x := ⟨_, List.getElem?_eq_getElem hlt⟩
      obtain ⟨g, k0, hA, hg, hc⟩ := hS k x hx
      subst hA
      have c0 : wr.cell? ⟨g, k0 + k * 9, none⟩ = some (.int .i64 x.asid) := hc 0 _ rfl
      have c1 := hc 1 _ rfl
      have c2 := hc 2 _ rfl
      have c3 := hc 3 _ rfl
      have c4 := hc 4 _ rfl
      have c5 := hc 5 _ rfl
      have c6 := hc 6 _ rfl
      have c7 := hc 7 _ rfl
      have c8 := hc 8 _ rfl
      (have d0 : (wr).cell? ⟨w.heap.size, 0, none⟩ = some (.int .i64 b.asid) := (hXr).cell 0; have d1 : (wr).cell? ⟨w.heap.size, 1, none⟩ = some (.int .i64 b.size) := (hXr).cell 1; have d2 : (wr).cell? ⟨w.heap.size, 2, none⟩ = some (.int .u32 b.va) := (hXr).cell 2; have d3 : (wr).cell? ⟨w.heap.size, 3, none⟩ = some (.int .u64 b.pa) := (hXr).cell 3; have d4 : (wr).cell? ⟨w.heap.size, 4, none⟩ = some (.int .i64 b.dom) := (hXr).cell 4; have d5 : (wr).cell? ⟨w.heap.size, 5, none⟩ = some (.int .i64 b.ap) := (hXr).cell 5; have d6 : (wr).cell? ⟨w.heap.size, 6, none⟩ = some (.int .u32 b.bits) := (hXr).cell 6; have d7 : (wr).cell? ⟨w.heap.size, 7, none⟩ = some (.bool b.ng) := (hXr).cell 7; have d8 : (wr).cell? ⟨w.heap.size, 8, none⟩ = some (.bool b.xn) := (hXr).cell 8)
      have heq0 := fun W => eql_blk x b W
      have i0 : (0 : Int) ≤ ↑k := by omega
      have i1 : (↑k : Int) < ↑L.length := by omega
      have HN := Lib.hid hn
      have HX := Lib.hid hx
      clear hc hn hx
      cases hxb : x.eqB b
      · have HS := Lib.hid (among_step L b x k HX.out HN.out hxb)
        rw [hxb] at heq0
        clear hxb
        go_wp2_with fail
        go_quiet (fail)
        go_wp2
        go_roundw
        case rel => exact ⟨k + 1, by omega, by go_num, HS.out, hS.belowN (bdrewN (Below.refl _ _) _), hXr.drewN _, bdrewN hB _⟩
        case measure => simp [intOf]; omega
      · rw [hxb] at heq0
        have HT := Lib.hid (show amongB L b = true from by unfold amongB; rw [List.any_eq_true]; exact ⟨x, List.mem_of_getElem? HX.out, hxb⟩)
        clear hxb
        go_wp2_with fail
        go_quiet (fail)
        go_wp2
        go_ret
        exact ⟨by rw [HT.out]; rfl, bdrewN hB _⟩
    · have htk : L.take k = L := List.take_of_length_le (by omega)
      rw [htk] at hn
      have HN := Lib.hid hn
      clear hn htk
      go_wp2
      go_ret
      exact ⟨by rw [HN.out]; rfl, hB⟩
theorem bytesOf_le (s : Int) : 0 ≤ bytesOf s ∧ bytesOf s ≤ 16777216 := by unfold bytesOf; split; omega; split; omega; split; omega; split <;> omega
set_option maxHeartbeats 1600000 in
theorem apart_is (a b : Blk) (ha : a.Ok) (hb : b.Ok) (w : World) (hs : Shf w) :
    Calls Tryd.prog 39 #[(.agg #[.int .i64 a.asid, .int .i64 a.size, .int .u32 a.va, .int .u64 a.pa, .int .i64 a.dom, .int .i64 a.ap, .int .u32 a.bits, .bool a.ng, .bool a.xn]), (.agg #[.int .i64 b.asid, .int .i64 b.size, .int .u32 b.va, .int .u64 b.pa, .int .i64 b.dom, .int .i64 b.ap, .int .u32 b.bits, .bool b.ng, .bool b.xn])] w fun e w' => e = .returned (.bool (apartB a b)) ∧ Below w.heap.size w w' := by
  have DB : ∀ (s : Int) (W : World), Shf W → Calls Tryd.prog 66 #[.int .i64 s] W fun e w' => e = .returned (.int .u64 (bytesOf s)) ∧ ∃ n, w' = W.drewN n := fun s W hW => desc_Bytes_is s W hW
  have DB := Lib.hid DB
  have s0 := (hs.alloc (.cells #[.int .i64 a.asid, .int .i64 a.size, .int .u32 a.va, .int .u64 a.pa, .int .i64 a.dom, .int .i64 a.ap, .int .u32 a.bits, .bool a.ng, .bool a.xn] 29)).alloc (.cells #[.int .i64 b.asid, .int .i64 b.size, .int .u32 b.va, .int .u64 b.pa, .int .i64 b.dom, .int .i64 b.ap, .int .u32 b.bits, .bool b.ng, .bool b.xn] 29)
  have b0 : Below w.heap.size w ((w.alloc (.cells #[.int .i64 a.asid, .int .i64 a.size, .int .u32 a.va, .int .u64 a.pa, .int .i64 a.dom, .int .i64 a.ap, .int .u32 a.bits, .bool a.ng, .bool a.xn] 29)).alloc (.cells #[.int .i64 b.asid, .int .i64 b.size, .int .u32 b.va, .int .u64 b.pa, .int .i64 b.dom, .int .i64 b.ap, .int .u32 b.bits, .bool b.ng, .bool b.xn] 29)) := ((Below.refl _ _).alloc (Nat.le_refl _) _).alloc (by simp) _
  have ba := bytesOf_le a.size
  have bb := bytesOf_le b.size
  obtain ⟨ma, hma⟩ : ∃ m, bytesOf a.size = m := ⟨_, rfl⟩
  obtain ⟨mb, hmb⟩ : ∃ m, bytesOf b.size = m := ⟨_, rfl⟩
  have HA := Lib.hid hma
  have HB := Lib.hid hmb
  rw [hma] at ba
  rw [hmb] at bb
  have a0 := ha.va0
  have a1 := ha.va1
  have b0' := hb.va0
  have b1 := hb.va1
  obtain ⟨ba0, ba1⟩ := ba
  obtain ⟨bb0, bb1⟩ := bb
  clear hma hmb ha hb hs
  by_cases h1 : a.va + ma ≤ b.va
  · have hR := Lib.hid (show apartB a b = true by unfold apartB; rw [HA.out, HB.out]; simp [h1])
    go_enter Tryd.func39, Tryd.ntmps39
    go_wp2_with fail
    refine (DB.out _ _ s0).mono ?_
    rintro e w1 ⟨rfl, n, rfl⟩
    rw [HA.out]
    go_wp2_with fail
    go_ret
    exact ⟨by rw [hR.out]; first | rfl | (simp; omega), bdrewN b0 _⟩
  · by_cases h2 : b.va + mb ≤ a.va
    · have hR := Lib.hid (show apartB a b = true by unfold apartB; rw [HA.out, HB.out]; simp [h2])
      go_enter Tryd.func39, Tryd.ntmps39
      go_wp2_with fail
      refine (DB.out _ _ s0).mono ?_
      rintro e w1 ⟨rfl, n, rfl⟩
      rw [HA.out]
      go_wp2_with fail
      refine (DB.out _ _ (s0.drewN n)).mono ?_
      rintro e w1 ⟨rfl, n2, rfl⟩
      rw [HB.out]
      go_wp2_with fail
      go_ret
      exact ⟨by rw [hR.out]; first | rfl | (simp; omega), by first | exact bdrewN (bdrewN b0 _) _ | exact bdrewN b0 _⟩
    · have hR := Lib.hid (show apartB a b = false by unfold apartB; rw [HA.out, HB.out]; simp [h1, h2])
      go_enter Tryd.func39, Tryd.ntmps39
      go_wp2_with fail
      refine (DB.out _ _ s0).mono ?_
      rintro e w1 ⟨rfl, n, rfl⟩
      rw [HA.out]
      go_wp2_with fail
      refine (DB.out _ _ (s0.drewN n)).mono ?_
      rintro e w1 ⟨rfl, n2, rfl⟩
      rw [HB.out]
      go_wp2_with fail
      go_ret
      exact ⟨by rw [hR.out]; first | rfl | (simp; omega), by first | exact bdrewN (bdrewN b0 _) _ | exact bdrewN b0 _⟩
end Go.Proofs.YtngcpcgioophcaaDoor

namespace Go.Proofs.YtngcpcgioophcaaDoor
open Go.ChangeShapes Go.WideShapes Go.RowKit Go.Deep Flat

theorem choose_lt2 {α : Type} [Inhabited α] {n : Nat} {p : Nat → α → Prop} (h : ∀ i, i < n → ∃ o, p i o) : ∃ O : Nat → α, ∀ i, i < n → p i (O i) := by
  classical
  exact ⟨fun i => if hi : i < n then Classical.choose (h i hi) else default, fun i hi => by dsimp only; rw [dif_pos hi]; exact Classical.choose_spec (h i hi)⟩
section
set_option maxRecDepth 100000
variable {H : Type} {enc : TypeId × Value → H} {W : World} {spare : Nat → Bool} {held : Bool} {r : Reach} {b0 : Nat} {v : Value} {d : DataW H} {p : List MemPlace}
theorem open_rows {t e : TypeId} {K : List (Option IntKind)} (hu : Tryd.prog.underlying t = some (.slice e)) (hfl : flatT Tryd.prog 5 e = some K) (hC : Tryd.prog.cellsOf e = K.length) (hp : 0 < K.length)
    (hv : Value.okWide Tryd.prog W r b0 t v) (h : DataW.Trod enc Tryd.prog W 0 spare held t v d p) :
    ∃ (q : Option Addr) (len cap : Nat) (R : Nat → List Value), v = .slice q len cap ∧ len ≤ maxLen ∧ (len = 0 ∨ ∃ es sp, d = .slice es sp ∧ es.length = len) ∧
      ∀ i, i < len → fitsAll K (R i) ∧ ∃ g k0, q = some ⟨g, k0, none⟩ ∧ g < W.heap.size ∧ ∀ j u, (R i)[j]? = some u → W.cell? ⟨g, k0 + i * K.length + j, none⟩ = some u := by
  obtain ⟨q, len, cap, rfl⟩ := okWide_slice hu hv
  obtain ⟨fuel, hf⟩ := h
  rcases open_slice hu hf with ⟨hc, _⟩ | ⟨a, len', cap', m, n, D, Pl, hc, hb, hl, hm, hmm, hx, hall⟩
  · simp only [Value.cells, List.cons.injEq, Value.slice.injEq, and_true] at hc
    obtain ⟨rfl, rfl, rfl⟩ := hc
    exact ⟨none, 0, 0, fun _ => [], rfl, Nat.zero_le _, .inl rfl, fun i hi => by omega⟩
  · simp only [Value.cells, List.cons.injEq, Value.slice.injEq, and_true] at hc
    obtain ⟨rfl, rfl, rfl⟩ := hc
    have hlm : len ≤ m := by rw [hmm]; split <;> omega
    have hd : ∃ es sp, d = .slice es sp ∧ es.length = len := by
      obtain ⟨rfl, _⟩ := Prod.mk.inj hx
      exact ⟨_, _, rfl, by simp⟩
    by_cases h0 : len = 0
    · subst h0
      exact ⟨some a, 0, cap, fun _ => [], rfl, Nat.zero_le _, .inl rfl, fun i hi => by omega⟩
    have first : ∃ u, W.cell? a = some u := by
      obtain ⟨cs0, g1, g2⟩ := hall 0 (by omega)
      rw [hC] at g1
      obtain ⟨_, hlen0, hcell0⟩ := World.cells?_some g1
      have hq := hcell0 0 hp
      simp only [Nat.zero_mul, Addr.add, if_pos] at hq
      rw [List.getElem?_eq_getElem (by rw [hlen0]; exact hp)] at hq
      exact ⟨_, hq⟩
    have hsp : a.spot = none := by
      obtain ⟨u, hu'⟩ := first
      unfold World.cell? at hu'
      split at hu'
      · split at hu'
        · cases hu'
        · rename_i hh; simpa using hh
      · cases hu'
    obtain ⟨ab, ao, sp⟩ := a
    simp only at hsp
    subst hsp
    have hbl : ab < W.heap.size := by
      obtain ⟨u, hu'⟩ := first
      have := World.block_lt_of_cell? W _ hu'
      exact this
    have hadd : ∀ i j, ((⟨ab, ao, none⟩ : Addr).add (i * K.length)).add j = ⟨ab, ao + i * K.length + j, none⟩ := by
      intro i j
      unfold Addr.add
      by_cases e : i * K.length = 0 <;> by_cases f : j = 0 <;> simp [e, f]
    have each : ∀ i, i < len → ∃ R : List Value, fitsAll K R ∧ ∀ j u, R[j]? = some u → W.cell? ⟨ab, ao + i * K.length + j, none⟩ = some u := by
      intro i hi
      obtain ⟨cs', h1, h2⟩ := hall i (by omega)
      rw [hC] at h1
      obtain ⟨_, hlen, hcell⟩ := World.cells?_some h1
      refine ⟨cs', flatT_fits (P := Tryd.prog) 5 n e K _ _ hfl h2 hC, fun j u hj => ?_⟩
      have hjl : j < K.length := by have := (List.getElem?_eq_some_iff.1 hj).1; omega
      rw [← hadd]
      exact (hcell j hjl).trans hj
    obtain ⟨R, hR⟩ := choose_lt2 each
    exact ⟨some ⟨ab, ao, none⟩, len, cap, R, rfl, by omega, .inr hd, fun i hi => ⟨(hR i hi).1, ab, ao, rfl, hbl, (hR i hi).2⟩⟩
end
end Go.Proofs.YtngcpcgioophcaaDoor

namespace Go.Proofs.YtngcpcgioophcaaDoor
open Go.ChangeShapes Go.WideShapes Go.RowKit Go.Deep Flat

section
set_option maxRecDepth 100000
variable {H : Type} {enc : TypeId × Value → H} {W : World} {spare : Nat → Bool} {held : Bool} {r : Reach} {b0 : Nat} {v : Value} {d : DataW H} {p : List MemPlace}
instance : Inhabited Blk := ⟨zblk⟩
theorem cells_block : Tryd.prog.cellsOf 29 = blkK.length := by kernel_rfl
theorem open_blks (hv : Value.okWide Tryd.prog W r b0 71 v) (h : DataW.Trod enc Tryd.prog W 0 spare held 71 v d p) :
    ∃ (A : Option Addr) (cap : Nat) (L : List Blk), v = .slice A L.length cap ∧ BSl W A L ∧ (∀ b ∈ L, b.Ok) ∧ L.length ≤ maxLen ∧ (L.length = 0 ∨ ∃ es sp, d = .slice es sp ∧ es.length = L.length) := by
  obtain ⟨q, len, cap, R, rfl, hm, hd, hR⟩ := open_rows Tryd.underlying71 flat_blk cells_block (by decide) hv h
  have each : ∀ i, i < len → ∃ b : Blk, b.Ok ∧ R i = blkCells b := fun i hi => by
    obtain ⟨b, hb, ho⟩ := of_blkK (hR i hi).1
    exact ⟨b, ho, hb⟩
  obtain ⟨O, hO⟩ := choose_lt2 each
  have hlen : ((List.range len).map O).length = len := by simp
  refine ⟨q, cap, (List.range len).map O, by rw [hlen], ?_, ?_, by rw [hlen]; exact hm, by rw [hlen]; exact hd⟩
  · intro i b hi
    have hil : i < len := by have := (List.getElem?_eq_some_iff.1 hi).1; simpa using this
    have e : b = O i := by simpa [hil] using hi.symm
    subst e
    obtain ⟨_, g, k0, hq, hg, hc⟩ := hR i hil
    refine ⟨g, k0, hq, hg, fun j u hj => ?_⟩
    rw [← (hO i hil).2] at hj
    exact hc j u hj
  · intro b hb
    obtain ⟨i, hi, rfl⟩ := List.mem_map.1 hb
    exact (hO i (List.mem_range.1 hi)).1
theorem of_op11Kv {cs : List Value} (h : fitsAll op11K cs) : ∃ o : Op11, cs = op11Cells o ∧ o.Ok ∧ 0 ≤ o.va ∧ o.va ≤ 4294967295 := by
  have hl := fitsAll_len h
  match cs, hl with
  | [u0, u1, u2, u3, u4, u5, u6, v0, v1, v2, v3, v4, v5, v6, v7, v8, d0, d1, d2], _ =>
    obtain ⟨⟨m0, rfl, g0⟩, ⟨m1, rfl, g1⟩, ⟨m2, rfl, g2⟩, ⟨m3, rfl, g3⟩, ⟨m4, rfl, g4⟩, ⟨m5, rfl⟩, ⟨m6, rfl⟩, ⟨n0, rfl, h0⟩, ⟨n1, rfl, h1⟩, ⟨n2, rfl, h2⟩, ⟨n3, rfl, h3⟩, ⟨n4, rfl, h4⟩, ⟨n5, rfl, h5⟩, ⟨n6, rfl, h6⟩, ⟨n7, rfl⟩, ⟨n8, rfl⟩, ⟨e0, rfl, f0⟩, ⟨e1, rfl, f1⟩, ⟨e2, rfl, f2⟩, _⟩ := h
    exact ⟨⟨m0, m1, m2, m3, m4, m5, m6, ⟨n0, n1, n2, n3, n4, n5, n6, n7, n8⟩, ⟨e0, e1, e2⟩⟩, rfl, ⟨(bnd_i64 g2).1, (bnd_i64 g2).2, ⟨(bnd_i64 h0).1, (bnd_i64 h0).2, (bnd_i64 h1).1, (bnd_i64 h1).2, (bnd_u32 h2).1, (bnd_u32 h2).2, (bnd_u64 h3).1, (bnd_u64 h3).2, (bnd_i64 h4).1, (bnd_i64 h4).2, (bnd_i64 h5).1, (bnd_i64 h5).2, (bnd_u32 h6).1, (bnd_u32 h6).2⟩⟩, (bnd_u32 g4).1, (bnd_u32 g4).2⟩
theorem cells_op11' : Tryd.prog.cellsOf 79 = op11K.length := by kernel_rfl
theorem open_ops11v (hv : Value.okWide Tryd.prog W r b0 70 v) (h : DataW.Trod enc Tryd.prog W 0 spare held 70 v d p) :
    ∃ (q : Option Addr) (cap : Nat) (os : List Op11), v = .slice q os.length cap ∧ OpsIn11 W.heap.size W q os ∧ (∀ o ∈ os, o.Ok ∧ 0 ≤ o.va ∧ o.va ≤ 4294967295) ∧ os.length ≤ maxLen ∧ (os.length = 0 ∨ ∃ es sp, d = .slice es sp ∧ es.length = os.length) := by
  obtain ⟨q, len, cap, R, rfl, hm, hd, hR⟩ := open_rows Tryd.underlying70 flat_op11 cells_op11' (by decide) hv h
  have each : ∀ i, i < len → ∃ o : Op11, (o.Ok ∧ 0 ≤ o.va ∧ o.va ≤ 4294967295) ∧ R i = op11Cells o := fun i hi => by
    obtain ⟨b, hb, ho⟩ := of_op11Kv (hR i hi).1
    exact ⟨b, ho, hb⟩
  obtain ⟨O, hO⟩ := choose_lt2 each
  have hlen : ((List.range len).map O).length = len := by simp
  refine ⟨q, cap, (List.range len).map O, by rw [hlen], ?_, ?_, by rw [hlen]; exact hm, by rw [hlen]; exact hd⟩
  · intro i b hi
    have hil : i < len := by have := (List.getElem?_eq_some_iff.1 hi).1; simpa using this
    have e : b = O i := by simpa [hil] using hi.symm
    subst e
    obtain ⟨_, g, k0, hq, hg, hc⟩ := hR i hil
    refine ⟨g, k0, hq, hg, fun j u hj => ?_⟩
    rw [← (hO i hil).2] at hj
    exact hc j u hj
  · intro b hb
    obtain ⟨i, hi, rfl⟩ := List.mem_map.1 hb
    exact (hO i (List.mem_range.1 hi)).1
/-- a slice that reads as a list of numbers -/
def ISl (w : World) (A : Option Addr) (L : List Int) : Prop := ∀ i n, L[i]? = some n → ∃ g k0, A = some ⟨g, k0, none⟩ ∧ g < w.heap.size ∧ w.cell? ⟨g, k0 + i, none⟩ = some (.int .i64 n)
theorem flat_int : flatT Tryd.prog 5 3 = some [some .i64] := by kernel_rfl
theorem cells_int : Tryd.prog.cellsOf 3 = [some IntKind.i64].length := by kernel_rfl
theorem open_intl (hv : Value.okWide Tryd.prog W r b0 69 v) (h : DataW.Trod enc Tryd.prog W 0 spare held 69 v d p) :
    ∃ (A : Option Addr) (cap : Nat) (L : List Int), v = .slice A L.length cap ∧ ISl W A L ∧ (∀ n ∈ L, -9223372036854775808 ≤ n ∧ n ≤ 9223372036854775807) ∧ L.length ≤ maxLen := by
  obtain ⟨q, len, cap, R, rfl, hm, hd, hR⟩ := open_rows Tryd.underlying69 flat_int cells_int (by decide) hv h
  have each : ∀ i, i < len → ∃ n : Int, (-9223372036854775808 ≤ n ∧ n ≤ 9223372036854775807) ∧ R i = [.int .i64 n] := fun i hi => by
    have hf := (hR i hi).1
    have hl := fitsAll_len hf
    match hr : R i, hl with
    | [u], _ =>
      rw [hr] at hf
      obtain ⟨⟨n, rfl, hw⟩, _⟩ := hf
      exact ⟨n, ⟨(bnd_i64 hw).1, (bnd_i64 hw).2⟩, rfl⟩
  obtain ⟨O, hO⟩ := choose_lt2 each
  have hlen : ((List.range len).map O).length = len := by simp
  refine ⟨q, cap, (List.range len).map O, by rw [hlen], ?_, ?_, by rw [hlen]; exact hm⟩
  · intro i n hi
    have hil : i < len := by have := (List.getElem?_eq_some_iff.1 hi).1; simpa using this
    have e : n = O i := by simpa [hil] using hi.symm
    subst e
    obtain ⟨_, g, k0, hq, hg, hc⟩ := hR i hil
    rw [(hO i hil).2] at hc
    refine ⟨g, k0, hq, hg, ?_⟩
    have := hc 0 _ rfl
    simpa using this
  · intro n hn
    obtain ⟨i, hi, rfl⟩ := List.mem_map.1 hn
    exact (hO i (List.mem_range.1 hi)).1
end
/-- two groups of three TLBs and what is made behind them lie apart -/
structure OSep (B N M hA hB : Nat) (tA gA tB gB : Nat → Nat) : Prop where
  a : hA < N ∧ ∀ k, 1 ≤ k → k ≤ 3 → tA k < N ∧ gA k < N
  b : N ≤ hB ∧ ∀ k, 1 ≤ k → k ≤ 3 → N ≤ tB k ∧ N ≤ gB k
  m : hB < M ∧ ∀ k, 1 ≤ k → k ≤ 3 → tB k < M ∧ gB k < M
  n : N ≤ M
  l : ∀ k, 1 ≤ k → k ≤ 3 → B ≤ gA k
  lb : B ≤ N
structure OInv (w0 : World) (M hA hB : Nat) (tA gA tB gB : Nat → Nat) (wr : World) (v : Value) (OK : List Blk) (xa xb : Nat → List Slot) : Prop where
  own : OwnB wr M v OK
  ha : IsHier wr hA tA gA xa
  hb : IsHier wr hB tB gB xb
  oa : Ok3 xa
  ob : Ok3 xb
  la : Only3 OK xa
  lb : Only3 OK xb
  na : Nod3 xa
  nb : Nod3 xb
  ap : Apart2 OK
  ok : ∀ b ∈ OK, b.Ok
  shf : Shf wr
  bel : Below w0.heap.size w0 wr
  mle : M ≤ wr.heap.size
section
variable {w0 : World} {N M hA hB : Nat} {tA gA tB gB : Nat → Nat} {wr w' : World} {v : Value} {OK : List Blk} {xa xb : Nat → List Slot}
theorem OInv.below (h : OInv w0 M hA hB tA gA tB gB wr v OK xa xb) (hb : Below wr.heap.size wr w') : OInv w0 M hA hB tA gA tB gB w' v OK xa xb :=
  ⟨h.own.belowN hb, h.ha.below hb, h.hb.below hb, h.oa, h.ob, h.la, h.lb, h.na, h.nb, h.ap, h.ok, h.shf.below h.shf.pos hb, bthen h.bel hb, Nat.le_trans h.mle hb.size⟩
theorem OSep.notB (s : OSep w0.heap.size N M hA hB tA gA tB gB) {i : Nat} (hi : N ≤ i) : ¬ In3 gA i := fun ⟨k, a, c, e⟩ => by have := (s.a.2 k a c).2; omega
theorem OSep.notA (s : OSep w0.heap.size N M hA hB tA gA tB gB) {i : Nat} (hi : i < N) : ¬ In3 gB i := fun ⟨k, a, c, e⟩ => by have := (s.b.2 k a c).2; omega
theorem OSep.notM (s : OSep w0.heap.size N M hA hB tA gA tB gB) {i : Nat} (hi : M ≤ i) : ¬ In3 gB i := fun ⟨k, a, c, e⟩ => by have := (s.m.2 k a c).2; omega
theorem OInv.inA (h : OInv w0 M hA hB tA gA tB gB wr v OK xa xb) (s : OSep w0.heap.size N M hA hB tA gA tB gB) {ya : Nat → List Slot} (g : GrownS wr w' (In3 gA)) (hi : IsHier w' hA tA gA ya) (h1 : Ok3 ya) (h2 : Only3 OK ya) (h3 : Nod3 ya) : OInv w0 M hA hB tA gA tB gB w' v OK ya xb := by
  refine ⟨h.own.keep (fun b hb hlt => g.block b hlt (s.notB (Nat.le_trans s.n (h.own.block hb).1))), hi, ⟨h.hb.b.gs g (s.notB s.b.1), h.hb.th.gs g (fun k a c => s.notB (s.b.2 k a c).1) (fun k a c => s.notB (s.b.2 k a c).2), h.hb.ne⟩, h1, h.ob, h2, h.lb, h3, h.nb, h.ap, h.ok, h.shf.gs g ?_, h.bel.trans (g.bel h.bel.size ?_), Nat.le_trans h.mle g.size⟩
  · exact h.ha.th.zero
  · rintro i ⟨k, a, c, rfl⟩; exact s.l k a c
theorem OInv.inB (h : OInv w0 M hA hB tA gA tB gB wr v OK xa xb) (s : OSep w0.heap.size N M hA hB tA gA tB gB) {yb : Nat → List Slot} (g : GrownS wr w' (In3 gB)) (hi : IsHier w' hB tB gB yb) (h1 : Ok3 yb) (h2 : Only3 OK yb) (h3 : Nod3 yb) : OInv w0 M hA hB tA gA tB gB w' v OK xa yb := by
  refine ⟨h.own.keep (fun b hb hlt => g.block b hlt (s.notM (h.own.block hb).1)), ⟨h.ha.b.gs g (s.notA s.a.1), h.ha.th.gs g (fun k a c => s.notA (s.a.2 k a c).1) (fun k a c => s.notA (s.a.2 k a c).2), h.ha.ne⟩, hi, h.oa, h1, h.la, h2, h.na, h3, h.ap, h.ok, h.shf.gs g ?_, h.bel.trans (g.bel h.bel.size ?_), Nat.le_trans h.mle g.size⟩
  · exact h.hb.th.zero
  · rintro i ⟨k, a, c, rfl⟩; have := (s.b.2 k a c).2; have := s.lb; omega
theorem OInv.app (h : OInv w0 M hA hB tA gA tB gB wr v OK xa xb) (s : OSep w0.heap.size N M hA hB tA gA tB gB) {v' : Value} {x : Blk} (g : wr.grownBy w' v.ownBlock) (ho : OwnB w' M v' (OK ++ [x])) (hx : x.Ok) (hap : OK.all (fun y => apartB y x) = true) : OInv w0 M hA hB tA gA tB gB w' v' (OK ++ [x]) xa xb := by
  have far : ∀ i, i < M → some i ≠ v.ownBlock := fun i hi e => by have := (h.own.block e.symm).1; omega
  have keep : ∀ {b : Nat} {t : TypeId} {cs : List Value}, b < M → Blok wr b t cs → Blok w' b t cs := fun hb hk => hk.grown g (far _ hb)
  have hz : ∀ k, 1 ≤ k → k ≤ 3 → tA k < M ∧ gA k < M := fun k a c => by have := s.a.2 k a c; have := s.n; omega
  have memL : ∀ b, b ∈ OK → b ∈ OK ++ [x] := fun b hb => List.mem_append_left _ hb
  refine ⟨ho, ⟨keep (by have := s.a.1; have := s.n; omega) h.ha.b, ⟨fun k a c => ?_, h.ha.th.inj, h.ha.th.far, h.ha.th.gz⟩, h.ha.ne⟩, ⟨keep s.m.1 h.hb.b, ⟨fun k a c => ?_, h.hb.th.inj, h.hb.th.far, h.hb.th.gz⟩, h.hb.ne⟩, h.oa, h.ob, h.la.mono memL, h.lb.mono memL, h.na, h.nb, ?_, ?_, ?_, ?_, Nat.le_trans h.mle g.size⟩
  · have t := h.ha.th.t k a c
    exact ⟨keep (hz k a c).1 t.hd, keep (hz k a c).2 t.sl, t.ne, t.pos, t.le⟩
  · have t := h.hb.th.t k a c
    exact ⟨keep (s.m.2 k a c).1 t.hd, keep (s.m.2 k a c).2 t.sl, t.ne, t.pos, t.le⟩
  · have hall := List.all_eq_true.1 hap
    intro b hb c hc hne
    rcases List.mem_append.1 hb with hb1 | hb1
    · rcases List.mem_append.1 hc with hc1 | hc1
      · exact h.ap b hb1 c hc1 hne
      · rw [List.mem_singleton.1 hc1]; exact hall b hb1
    · have e1 := List.mem_singleton.1 hb1
      rcases List.mem_append.1 hc with hc1 | hc1
      · have := hall c hc1
        rw [e1]
        unfold apartB at this ⊢
        rw [Bool.or_comm]; exact this
      · exact absurd (e1.trans (List.mem_singleton.1 hc1).symm) hne
  · intro b hb
    rcases List.mem_append.1 hb with hb1 | hb1
    · exact h.ok b hb1
    · rw [List.mem_singleton.1 hb1]; exact hx
  · exact h.shf.grown g (fun e => by have := h.own.block e; have := s.m.1; omega)
  · refine ⟨g.os.trans h.bel.os, g.tape.trans h.bel.tape, g.output.trans h.bel.output, Nat.le_trans h.bel.size g.size, fun i hi => ?_⟩
    exact (g.block i (Nat.lt_of_lt_of_le hi h.bel.size) (far i (by have := s.lb; have := s.n; omega))).trans (h.bel.block i hi)
end
end Go.Proofs.YtngcpcgioophcaaDoor

namespace Go.Proofs.YtngcpcgioophcaaDoor
open Go.RowKit

theorem tmod64 (z : Int) : -64 < z.tmod 64 ∧ z.tmod 64 < 64 := by
  have h1 := Int.tmod_lt_of_pos z (show (0 : Int) < 64 by omega)
  have h2 := Int.lt_tmod_of_pos z (show (0 : Int) < 64 by omega)
  omega
theorem overB_own (b : Blk) (hr : rightB b = true) : overB b b.va (bits .and .i64 b.asid 255) = true := by
  have hcov : coversB b.va b.size b.va = true := by
    unfold rightB at hr
    have ht : transB b = true := by
      split at hr <;> simp only [Bool.and_eq_true] at hr
      · exact hr.1.1
      · exact hr.1
    unfold transB sizedB at ht
    simp only [Bool.and_eq_true, decide_eq_true_eq] at ht
    unfold coversB bytesOf
    simp
    have h1 := ht.1.1.1.1
    obtain h | h | h | h : b.size = 1 ∨ b.size = 2 ∨ b.size = 3 ∨ b.size = 4 := by omega
    all_goals simp [h]
  have hasid : b.asid = bits .and .i64 b.asid 255 ∨ b.asid = -1 := by
    unfold rightB at hr
    split at hr
    · simp only [Bool.and_eq_true, decide_eq_true_eq] at hr
      left
      obtain ⟨n, hn⟩ := Int.eq_ofNat_of_zero_le hr.1.2
      have hn2 : n ≤ 255 := by omega
      rw [hn]
      have : ∀ m : Nat, m ≤ 255 → ((m : Nat) : Int) = bits .and .i64 (m : Int) 255 := by decide +kernel
      exact this n hn2
    · simp only [Bool.and_eq_true, decide_eq_true_eq] at hr
      exact .inr hr.2
  unfold overB
  rw [hr, hcov]
  simp only [Bool.and_eq_true, Bool.or_eq_true, decide_eq_true_eq, true_and]
  exact hasid
theorem rows3_only (n1 n2 n3 : Nat) (L : List Blk) : Only3 L (rows3 n1 n2 n3) := fun k _ _ => by unfold rows3 sel3; split; exact newRow_only _ _; split; exact newRow_only _ _; exact newRow_only _ _
theorem rows3_nod (n1 n2 n3 : Nat) : Nod3 (rows3 n1 n2 n3) := fun k _ _ => by unfold rows3 sel3; split; exact newRow_nodbl _; split; exact newRow_nodbl _; exact newRow_nodbl _
/-- the sizes while they are laid -/
def SzOk (S : List Int) : Prop := S.length = 3 ∧ ∀ x ∈ S, 1 ≤ x ∧ x ≤ 64
theorem SzOk.set_ {S : List Int} (h : SzOk S) (k : Nat) (x : Int) (h1 : 1 ≤ x) (h2 : x ≤ 64) : SzOk (S.set k x) := by
  refine ⟨by simp [h.1], fun y hy => ?_⟩
  rcases List.mem_or_eq_of_mem_set hy with hy | hy
  · exact h.2 y hy
  · omega
def goodTo (x : Blk) (OK : List Blk) (j : Nat) : Bool := rightB x && (OK.take j).all (fun y => apartB y x)
theorem goodTo_zero (x : Blk) (OK : List Blk) : goodTo x OK 0 = rightB x := by simp [goodTo]
theorem goodTo_next (x : Blk) (OK : List Blk) (j : Nat) (y : Blk) (h : OK[j]? = some y) : goodTo x OK (j + 1) = (goodTo x OK j && apartB y x) := by
  unfold goodTo
  rw [take_snoc OK j y h, List.all_append]
  simp [Bool.and_assoc]
theorem goodTo_all (x : Blk) (OK : List Blk) (h : goodTo x OK OK.length = true) : rightB x = true ∧ OK.all (fun y => apartB y x) = true := by
  unfold goodTo at h
  rw [List.take_length, Bool.and_eq_true] at h
  exact h
theorem own_snoc {w : World} {M : Nat} {v : Value} {OK : List Blk} {x : Blk} (h : w.ownsRow M 29 9 v (OK.length + 1) (bkFlat OK ++ blkCells x)) : OwnB w M v (OK ++ [x]) := by
  unfold OwnB
  rw [bkFlat_snoc, List.length_append]
  exact h
theorem keepR_ok3 {xs : Nat → List Slot} (h : Ok3 xs) {b : Blk} (hb : b.Ok) (va asid : Int) (f : Bool) (p : Int) : Ok3 (keepR xs b va asid f p) := by
  unfold keepR
  obtain ⟨s1, s3, _⟩ := sm_le f
  split
  · exact (h.upd (takeRow_ok _ hb _ _ _ _ (h 3 (by omega) (by omega)))).upd (takeRow_ok _ hb _ _ _ _ (h _ s1 s3))
  · exact h
/-- A STORE over the whole of a block. -/
theorem wpList_store_all {P : Program} {ops : Array Oper} {rest : List Oper} {op : Oper} {a : Act} {w : World} {Q : Exit → Act → World → Prop} (hgd : op.guard = none) (ty : TypeId) (x y : Operand) (ho : op.op = .store ty x y)
    (g : Nat) (vs : Array Value) (hx : a.eval x = .pointer (some ⟨g, 0, none⟩)) (hy : a.eval y = .agg vs) {t : TypeId} {cs : List Value} (hb : Blok w g t cs) (hl : vs.size = cs.length)
    (hi : (P.info? ty).map (·.size) = some vs.size) (h1 : vs.toList.all (·.oneCell') = true)
    (h : ∀ w1, Blok w1 g t vs.toList → w.grownBy w1 (some g) → w1.heap.size = w.heap.size → wpList P ops Q rest (a.put op.dst undef) w1) : wpList P ops Q (op :: rest) a w :=
  wpList_store_blok hgd ty x y ho g 0 vs hx hy hb (by omega) hi h1 (fun w1 b1 b2 b3 => h w1 (by simpa [hl] using b1) b2 b3)
theorem below_new {w w' : World} {o : Obj} (g : (w.alloc o).grownBy w' (some w.heap.size)) : Below w.heap.size w w' :=
  ⟨g.os, g.tape, g.output, Nat.le_trans (by simp) g.size, fun i hi => (g.block i (by simp; omega) (fun e => by have := Option.some.inj e; omega)).trans (Below.heap_alloc w o i hi)⟩
theorem IsHier.far1 {w w' : World} {hb r : Nat} {tb gb : Nat → Nat} {xs : Nat → List Slot} (h : IsHier w hb tb gb xs) (g : w.grownBy w' (some r)) (h1 : hb ≠ r) (h2 : ∀ k, 1 ≤ k → k ≤ 3 → tb k ≠ r ∧ gb k ≠ r) : IsHier w' hb tb gb xs :=
  ⟨h.b.grown g (by intro e; exact h1 (Option.some.inj e)), ⟨fun j a c => (h.th.t j a c).far' g (h2 j a c).1 (h2 j a c).2, h.th.inj, h.th.far, h.th.gz⟩, h.ne⟩
end Go.Proofs.YtngcpcgioophcaaDoor

namespace Go.Proofs.YtngcpcgioophcaaDoor
open Go.RowKit

def leftB (d : Tlbi) (L : List Blk) : List Blk := L.filter (fun b => !takesB d b)
theorem leftB_next (d : Tlbi) (L : List Blk) (k : Nat) (x : Blk) (h : L[k]? = some x) : leftB d (L.take (k + 1)) = leftB d (L.take k) ++ (if takesB d x = true then [] else [x]) := by
  unfold leftB
  rw [take_snoc L k x h, List.filter_append]
  cases hx : takesB d x <;> simp [hx]
theorem leftB_le (d : Tlbi) (L : List Blk) (k : Nat) : (leftB d (L.take k)).length ≤ k := Nat.le_trans (List.length_filter_le _ _) (List.length_take_le k L)
theorem OwnB.mono {w : World} {base M : Nat} {v : Value} {L : List Blk} (h : OwnB w base v L) (hM : M ≤ base) : OwnB w M v L := by
  obtain ⟨hl, h⟩ := h
  refine ⟨hl, ?_⟩
  rcases h with h | ⟨g, cap, cur, rfl, hbg, hr⟩
  · exact .inl h
  · exact .inr ⟨g, cap, cur, rfl, Nat.le_trans hM hbg, hr⟩
set_option maxHeartbeats 3200000 in
set_option maxRecDepth 100000 in
theorem without_is (L : List Blk) (hLo : ∀ b ∈ L, b.Ok) (d : Tlbi) (A : Option Addr) (cap : Nat) (hLm : L.length * 56 ≤ 140737488355328) (w : World) (hs : Shf w) (h : BSl w A L) :
    Calls Tryd.prog 52 #[.slice A L.length cap, (.agg #[.int .i64 d.kind, .int .u32 d.va, .int .i64 d.asid])] w fun e w' => ∃ v, e = .returned v ∧ OwnB w' w.heap.size v (leftB d L) ∧ Below w.heap.size w w' := by
  have hX : Blok (w.alloc (.cells #[.int .i64 d.kind, .int .u32 d.va, .int .i64 d.asid] 31)) w.heap.size 31 #[.int .i64 d.kind, .int .u32 d.va, .int .i64 d.asid].toList := Blok.new w _ _
  have hB0 : Below w.heap.size w (w.alloc (.cells #[.int .i64 d.kind, .int .u32 d.va, .int .i64 d.asid] 31)) := (Below.refl _ _).alloc (Nat.le_refl _) _
  have s0 := hs.alloc (.cells #[.int .i64 d.kind, .int .u32 d.va, .int .i64 d.asid] 31)
  have HLM := Lib.hid hLm
  have hLl : L.length < 9223372036854775808 := by omega
  have HLO := Lib.hid hLo
  have HS := Lib.hid h
  have HZ := Lib.hid (show leftB d (L.take 0) = [] from rfl)
  obtain ⟨ii, hii, hz0, hz1, hz2⟩ := info_parts blk_info
  have HII := Lib.hid (And.intro hii (And.intro hz0 (And.intro hz1 hz2)))
  clear hLm hLo h hii hz0 hz1 hz2
  go_enter Tryd.func52, Tryd.ntmps52
  go_wp2_with fail
  go_loopw [5, 6] (fun v5 v6 wr => ∃ k : Nat, k ≤ L.length ∧ v6 = .int .i64 k ∧ OwnB wr (w.heap.size + 1) v5 (leftB d (L.take k)) ∧ Blok wr w.heap.size 31 #[.int .i64 d.kind, .int .u32 d.va, .int .i64 d.asid].toList ∧ Shf wr ∧ Below w.heap.size w wr) (fun _ v6 _ => L.length - (intOf v6).toNat)
  case atStart => exact ⟨0, Nat.zero_le _, rfl, by rw [HZ.out]; exact OwnB.nil _ _, hX, s0, hB0⟩
  case round =>
    obtain ⟨k, hk, rfl, hown, hXr, hsr, hB⟩ := hrel
    clear hX s0 hB0
    have hle := leftB_le d L k
    have HLE := Lib.hid hle
    clear hle
    obtain ⟨A3, cv3, hv, -, -, -, -⟩ := hown.form
    subst hv
    by_cases hlt : k < L.length
    · obtain ⟨x, hx⟩ : ∃ x, L[k]? = some x := ⟨_, List.getElem?_eq_getElem hlt⟩
      obtain ⟨g, k0, hA, hg, hc⟩ := HS.out k x hx
      subst hA
      have hcw : ∀ (W : World), Below w.heap.size w W → ∀ j v, (blkCells x)[j]? = some v → W.cell? ⟨g, k0 + k * 9 + j, none⟩ = some v := fun W hb j v hv => (hb.cell hg).trans (hc j v hv)
      have HCW := Lib.hid hcw
      have HXO := Lib.hid (HLO.out x (List.mem_of_getElem? hx))
      have hn := leftB_next d L k x hx
      have hwz := hB.size
      have i0 : (0 : Int) ≤ ↑k := by omega
      have i1 : (↑k : Int) < ↑L.length := by omega
      have c0 : wr.cell? ⟨g, k0 + k * 9, none⟩ = some (.int .i64 x.asid) := HCW.out _ hB 0 _ rfl
      have c1 := HCW.out _ hB 1 _ rfl
      have c2 := HCW.out _ hB 2 _ rfl
      have c3 := HCW.out _ hB 3 _ rfl
      have c4 := HCW.out _ hB 4 _ rfl
      have c5 := HCW.out _ hB 5 _ rfl
      have c6 := HCW.out _ hB 6 _ rfl
      have c7 := HCW.out _ hB 7 _ rfl
      have c8 := HCW.out _ hB 8 _ rfl
      (have d0 : (wr).cell? ⟨w.heap.size, 0, none⟩ = some (.int .i64 d.kind) := (hXr).cell 0; have d1 : (wr).cell? ⟨w.heap.size, 1, none⟩ = some (.int .u32 d.va) := (hXr).cell 1; have d2 : (wr).cell? ⟨w.heap.size, 2, none⟩ = some (.int .i64 d.asid) := (hXr).cell 2)
      have TK0 := fun W hW => tlb_Takes_is d x HXO.out W hW
      obtain ⟨tk, htk⟩ : ∃ tk, takesB d x = tk := ⟨_, rfl⟩
      rw [htk] at TK0 hn
      have TK := Lib.hid TK0
      have HN := Lib.hid hn
      clear hx hc hcw hn TK0 htk
      have hXl := hXr.lt
      cases tk
      · go_wp2_with fail
        (refine wp_region_tail 5 (by kernel_rfl) (by kernel_rfl) ?_; simp only [List.take_succ_cons, List.take_zero, List.drop_succ_cons, List.drop_zero]; (repeat still_step); (try refine wpStill_nil ?_))
        go_wp2_with fail
        refine (TK.out _ (hsr.drewN 1)).mono ?_
        rintro e w1 ⟨rfl, b1⟩
        have B1 : Below w.heap.size w w1 := bthen (bdrew hB) b1
        have e0 : w1.cell? ⟨g, k0 + k * 9, none⟩ = some (.int .i64 x.asid) := HCW.out _ B1 0 _ rfl
        have e1 := HCW.out _ B1 1 _ rfl
        have e2 := HCW.out _ B1 2 _ rfl
        have e3 := HCW.out _ B1 3 _ rfl
        have e4 := HCW.out _ B1 4 _ rfl
        have e5 := HCW.out _ B1 5 _ rfl
        have e6 := HCW.out _ B1 6 _ rfl
        have e7 := HCW.out _ B1 7 _ rfl
        have e8 := HCW.out _ B1 8 _ rfl
        have O1 := (hown.drewN 1).belowN b1
        have X1 := Blok.below (hXr.drewN 1) b1 hXr.lt
        have S1 := (hsr.drewN 1).below (hsr.drewN 1).pos b1
        have Oa := O1.alloc (.cells #[.int .i64 x.asid, .int .i64 x.size, .int .u32 x.va, .int .u64 x.pa, .int .i64 x.dom, .int .i64 x.ap, .int .u32 x.bits, .bool x.ng, .bool x.xn] 29)
        have hnw : Hid (∀ j u, (blkCells x)[j]? = some u → (w1.alloc (.cells #[.int .i64 x.asid, .int .i64 x.size, .int .u32 x.va, .int .u64 x.pa, .int .i64 x.dom, .int .i64 x.ap, .int .u32 x.bits, .bool x.ng, .bool x.xn] 29)).cell? ((⟨w1.heap.size, 0, none⟩ : Addr).add j) = some u) := Lib.hid (World.news_of_block (cs := #[.int .i64 x.asid, .int .i64 x.size, .int .u32 x.va, .int .u64 x.pa, .int .i64 x.dom, .int .i64 x.ap, .int .u32 x.bits, .bool x.ng, .bool x.xn]) (heap_alloc_new w1 _))
        have z1 := B1.size
        go_wp2_with (refine wpList_append_lies _ rfl (.tmp 20) (.tmp 25) 71 rfl (w.heap.size + 1) 29 ii _ 9 56 Tryd.underlying71 HII.out.1 HII.out.2.1 HII.out.2.2.1 HII.out.2.2.2 rfl (by decide) (.slice A3 (leftB d (L.take k)).length cv3) (leftB d (L.take k)).length (bkFlat (leftB d (L.take k))) rfl Oa ⟨w1.heap.size, 0, none⟩ 1 1 (blkCells x) rfl rfl hnw.out (oneCell_blk x) (by omega) (by unfold maxLen; have := HLM.out; have := HLE.out; omega) (by have := HLM.out; have := HLE.out; omega) (by simp; have := hXl; have := b1.size; omega) _ rfl ?_; intro g7 cap7 w7 hown7 hgrow7 hat7 hlt7)
        go_roundw
        case rel =>
          refine ⟨k + 1, by omega, by go_num, ?_, ?_, ?_, ?_⟩
          · rw [HN.out, if_neg (by decide)]
            have := own_snoc hown7
            simpa using this
          · refine (X1.alloc _).grown hgrow7 (fun e => ?_)
            have := (O1.block e.symm).1
            omega
          · refine (S1.alloc _).grown hgrow7 (fun e => ?_)
            have := (O1.block e).1
            omega
          · exact ⟨hgrow7.os.trans B1.os, hgrow7.tape.trans B1.tape, hgrow7.output.trans B1.output, Nat.le_trans B1.size (Nat.le_trans (by simp) hgrow7.size), fun i hi => (hgrow7.block i (by simp; omega) (fun e => by have := (O1.block e.symm).1; omega)).trans ((Below.heap_alloc w1 _ i (by omega)).trans (B1.block i hi))⟩
        case measure => simp [intOf]; omega
      · go_wp2_with fail
        (refine wp_region_tail 5 (by kernel_rfl) (by kernel_rfl) ?_; simp only [List.take_succ_cons, List.take_zero, List.drop_succ_cons, List.drop_zero]; (repeat still_step); (try refine wpStill_nil ?_))
        go_wp2_with fail
        refine (TK.out _ (hsr.drewN 1)).mono ?_
        rintro e w1 ⟨rfl, b1⟩
        have B1 : Below w.heap.size w w1 := bthen (bdrew hB) b1
        have O1 := (hown.drewN 1).belowN b1
        have X1 := Blok.below (hXr.drewN 1) b1 hXr.lt
        have S1 := (hsr.drewN 1).below (hsr.drewN 1).pos b1
        go_wp2_with fail
        go_roundw
        case rel => exact ⟨k + 1, by omega, by go_num, by rw [HN.out]; simpa using O1, X1, S1, B1⟩
        case measure => simp [intOf]; omega
    · have htk : L.take k = L := List.take_of_length_le (by omega)
      rw [htk] at hown ⊢
      clear htk
      go_wp2
      go_ret
      exact ⟨_, rfl, hown.mono (by omega), hB⟩
end Go.Proofs.YtngcpcgioophcaaDoor

namespace Go.Proofs.YtngcpcgioophcaaDoor
open Go.RowKit

structure HSep (B M hb : Nat) (tb gb : Nat → Nat) : Prop where
  m : hb < M ∧ ∀ k, 1 ≤ k → k ≤ 3 → tb k < M ∧ gb k < M
  l : ∀ k, 1 ≤ k → k ≤ 3 → B ≤ gb k
  le : B ≤ M
structure HInv (w0 : World) (M hb : Nat) (tb gb : Nat → Nat) (wr : World) (v : Value) (KL : List Blk) (xs : Nat → List Slot) : Prop where
  own : OwnB wr M v KL
  h : IsHier wr hb tb gb xs
  o : Ok3 xs
  l : Only3 KL xs
  ok : ∀ b ∈ KL, b.Ok
  shf : Shf wr
  bel : Below w0.heap.size w0 wr
  mle : M ≤ wr.heap.size
section
variable {w0 : World} {M hb : Nat} {tb gb : Nat → Nat} {wr w' : World} {v : Value} {KL : List Blk} {xs : Nat → List Slot}
theorem HInv.below (h : HInv w0 M hb tb gb wr v KL xs) (bb : Below wr.heap.size wr w') : HInv w0 M hb tb gb w' v KL xs :=
  ⟨h.own.belowN bb, h.h.below bb, h.o, h.l, h.ok, h.shf.below h.shf.pos bb, bthen h.bel bb, Nat.le_trans h.mle bb.size⟩
theorem HInv.inH (h : HInv w0 M hb tb gb wr v KL xs) (s : HSep w0.heap.size M hb tb gb) {ys : Nat → List Slot} (g : GrownS wr w' (In3 gb)) (hi : IsHier w' hb tb gb ys) (h1 : Ok3 ys) (h2 : Only3 KL ys) : HInv w0 M hb tb gb w' v KL ys := by
  refine ⟨h.own.keep (fun b hb hlt => g.block b hlt (fun ⟨k, a, c, e⟩ => by have := (s.m.2 k a c).2; have := (h.own.block hb).1; omega)), hi, h1, h2, h.ok, h.shf.gs g h.h.th.zero, h.bel.trans (g.bel h.bel.size ?_), Nat.le_trans h.mle g.size⟩
  rintro i ⟨k, a, c, rfl⟩; exact s.l k a c
theorem HInv.app (h : HInv w0 M hb tb gb wr v KL xs) (s : HSep w0.heap.size M hb tb gb) {v' : Value} {x : Blk} (g : wr.grownBy w' v.ownBlock) (ho : OwnB w' M v' (KL ++ [x])) (hx : x.Ok) : HInv w0 M hb tb gb w' v' (KL ++ [x]) xs := by
  have far : ∀ i, i < M → some i ≠ v.ownBlock := fun i hi e => by have := (h.own.block e.symm).1; omega
  have keep : ∀ {b : Nat} {t : TypeId} {cs : List Value}, b < M → Blok wr b t cs → Blok w' b t cs := fun hb hk => hk.grown g (far _ hb)
  refine ⟨ho, ⟨keep s.m.1 h.h.b, ⟨fun k a c => ?_, h.h.th.inj, h.h.th.far, h.h.th.gz⟩, h.h.ne⟩, h.o, h.l.mono (fun b hb => List.mem_append_left _ hb), ?_, ?_, ?_, Nat.le_trans h.mle g.size⟩
  · have t := h.h.th.t k a c
    exact ⟨keep (s.m.2 k a c).1 t.hd, keep (s.m.2 k a c).2 t.sl, t.ne, t.pos, t.le⟩
  · intro b hb
    rcases List.mem_append.1 hb with hb1 | hb1
    · exact h.ok b hb1
    · rw [List.mem_singleton.1 hb1]; exact hx
  · exact h.shf.grown g (fun e => by have := h.own.block e; have := s.m.1; omega)
  · refine ⟨g.os.trans h.bel.os, g.tape.trans h.bel.tape, g.output.trans h.bel.output, Nat.le_trans h.bel.size g.size, fun i hi => ?_⟩
    exact (g.block i (Nat.lt_of_lt_of_le hi h.bel.size) (far i (by have := s.le; omega))).trans (h.bel.block i hi)
theorem HInv.drop (h : HInv w0 M hb tb gb wr v KL xs) (b : Below wr.heap.size wr w') {v' : Value} {d : Tlbi} (ho : OwnB w' wr.heap.size v' (leftB d KL)) (hl : Only3 (leftB d KL) xs) : HInv w0 M hb tb gb w' v' (leftB d KL) xs :=
  ⟨ho.mono h.mle, h.h.below b, h.o, hl, fun x hx => h.ok x (List.mem_filter.1 hx).1, h.shf.below h.shf.pos b, bthen h.bel b, Nat.le_trans h.mle b.size⟩
end
/-- what stays known while the TLBs have taken a block that is not kept yet -/
structure HInvK (w0 : World) (M hb : Nat) (tb gb : Nat → Nat) (wr : World) (v : Value) (KL : List Blk) : Prop where
  own : OwnB wr M v KL
  ok : ∀ b ∈ KL, b.Ok
  shf : Shf wr
  bel : Below w0.heap.size w0 wr
  mle : M ≤ wr.heap.size
theorem HInvK.app {w0 : World} {M hb : Nat} {tb gb : Nat → Nat} {wr w' : World} {v : Value} {KL : List Blk} {xs : Nat → List Slot} (h : HInvK w0 M hb tb gb wr v KL) (hh : IsHier wr hb tb gb xs) (ho3 : Ok3 xs) (s : HSep w0.heap.size M hb tb gb) {v' : Value} {x : Blk} (hl : Only3 (KL ++ [x]) xs) (g : wr.grownBy w' v.ownBlock) (ho : OwnB w' M v' (KL ++ [x])) (hx : x.Ok) : HInv w0 M hb tb gb w' v' (KL ++ [x]) xs := by
  have far : ∀ i, i < M → some i ≠ v.ownBlock := fun i hi e => by have := (h.own.block e.symm).1; omega
  have keep : ∀ {b : Nat} {t : TypeId} {cs : List Value}, b < M → Blok wr b t cs → Blok w' b t cs := fun hb hk => hk.grown g (far _ hb)
  refine ⟨ho, ⟨keep s.m.1 hh.b, ⟨fun k a c => ?_, hh.th.inj, hh.th.far, hh.th.gz⟩, hh.ne⟩, ho3, hl, ?_, ?_, ?_, Nat.le_trans h.mle g.size⟩
  · have t := hh.th.t k a c
    exact ⟨keep (s.m.2 k a c).1 t.hd, keep (s.m.2 k a c).2 t.sl, t.ne, t.pos, t.le⟩
  · intro b hb
    rcases List.mem_append.1 hb with hb1 | hb1
    · exact h.ok b hb1
    · rw [List.mem_singleton.1 hb1]; exact hx
  · exact h.shf.grown g (fun e => by have := h.own.block e; have := s.m.1; omega)
  · refine ⟨g.os.trans h.bel.os, g.tape.trans h.bel.tape, g.output.trans h.bel.output, Nat.le_trans h.bel.size g.size, fun i hi => ?_⟩
    exact (g.block i (Nat.lt_of_lt_of_le hi h.bel.size) (far i (by have := s.le; omega))).trans (h.bel.block i hi)
theorem evictR_only {L : List Blk} {xs : Nat → List Slot} (h : Only3 L xs) (which pick : Int) : Only3 L (evictR xs which pick).2 := by
  unfold evictR
  split
  · split
    · exact h.upd _ ((h _ (by omega) (by omega)).set_ _ _ (fun e => by cases e))
    · exact h
  · exact h
theorem evictR_ok {xs : Nat → List Slot} (h : Ok3 xs) (which pick : Int) : Ok3 (evictR xs which pick).2 := by
  unfold evictR
  split
  · split
    · exact h.upd (set_ok _ _ _ (h _ (by omega) (by omega)) zslot_ok)
    · exact h
  · exact h
theorem dropR3_only {L : List Blk} {xs : Nat → List Slot} (h : Only3 L xs) (d : Tlbi) : Only3 (leftB d L) (dropR3 xs d) := fun j a1 a3 => by
  unfold dropR3
  obtain rfl | rfl | rfl : j = 1 ∨ j = 2 ∨ j = 3 := by omega
  all_goals
    simp only [upd, Nat.reduceEqDiff, if_true, if_false]
    exact (h _ (by omega) (by omega)).dropRow d
theorem dropR3_onlyW {L : List Blk} {xs : Nat → List Slot} (h : Only3 L xs) (d : Tlbi) : Only3 L (dropR3 xs d) := (dropR3_only h d).mono (fun _ hb => (List.mem_filter.1 hb).1)
theorem dropR3_ok {xs : Nat → List Slot} (h : Ok3 xs) (d : Tlbi) : Ok3 (dropR3 xs d) :=
  ((h.upd (dropRow_ok _ _ (h 1 (by omega) (by omega)))).upd (dropRow_ok _ _ (h 2 (by omega) (by omega)))).upd (dropRow_ok _ _ (h 3 (by omega) (by omega)))
theorem transB_of (b : Blk) (h : rightB b = true) : transB b = true := by
  unfold rightB at h
  split at h <;> simp only [Bool.and_eq_true] at h
  · exact h.1.1
  · exact h.1
def fstB : Blk := ⟨3, 1, 4096, 8192, 0, 3, 0, true, false⟩
theorem fst_ok : fstB.Ok := by constructor <;> decide
theorem lookN_new (va asid : Int) (n : Nat) : lookN va asid (newRow n) = 0 := by
  rw [lookN_len]
  have : (newRow n).filter (mt va asid) = [] := List.filter_eq_nil_iff.2 (fun s hs => by rw [List.eq_of_mem_replicate hs]; simp [mt, zslot])
  rw [this]; rfl
theorem putRow_new (b : Blk) (m : Nat) : putRow b (newRow (m + 1)) 0 = ⟨true, b⟩ :: newRow m := by
  have hf : findB b (newRow (m + 1)) = none := by
    unfold findB
    rw [List.findIdx?_eq_none_iff]
    intro s hs
    rw [List.eq_of_mem_replicate hs]; rfl
  unfold putRow
  rw [hf]
  have he : newRow (m + 1) = zslot :: newRow m := rfl
  have hi : emptyI (newRow (m + 1)) = some 0 := by rw [he]; simp [emptyI, List.findIdx?_cons, zslot]
  have hp : putI (newRow (m + 1)) 0 = 0 := by unfold putI; rw [hi]
  dsimp only
  rw [hp, he]; rfl
theorem takeRow_new (m : Nat) : takeRow fstB 8188 3 0 (newRow (m + 1)) = ⟨true, fstB⟩ :: newRow m := by
  unfold takeRow
  rw [if_pos (lookN_new _ _ _)]
  unfold putAny
  rw [if_pos (by decide), putRow_new]
theorem lookN_fst (m : Nat) : lookN 4096 3 (⟨true, fstB⟩ :: newRow m) = 1 := by
  rw [lookN_len, List.filter_cons_of_pos (by decide)]
  have : (newRow m).filter (mt 4096 3) = [] := List.filter_eq_nil_iff.2 (fun s hs => by rw [List.eq_of_mem_replicate hs]; simp [mt, zslot])
  rw [this]; rfl
theorem lookB_fst (m : Nat) : lookB 4096 3 (⟨true, fstB⟩ :: newRow m) = fstB := by
  obtain ⟨s, hs, hf, _, hb⟩ := lookB_one 4096 3 _ (lookN_fst m)
  rw [hb]
  rcases List.mem_cons.1 hs with rfl | hs
  · rfl
  · rw [List.eq_of_mem_replicate hs] at hf; cases hf
theorem fst_find (m1 m2 m3 : Nat) : (findR (keepR (rows3 (m1 + 1) (m2 + 1) (m3 + 1)) fstB 8188 3 true 0) 4096 3 false 0 false).1 = fstB ∧ (findR (keepR (rows3 (m1 + 1) (m2 + 1) (m3 + 1)) fstB 8188 3 true 0) 4096 3 false 0 false).2.1 = 1 := by
  have r3 : rows3 (m1 + 1) (m2 + 1) (m3 + 1) 3 = newRow (m3 + 1) := rfl
  have r2 : rows3 (m1 + 1) (m2 + 1) (m3 + 1) 2 = newRow (m2 + 1) := rfl
  have k2 : keepR (rows3 (m1 + 1) (m2 + 1) (m3 + 1)) fstB 8188 3 true 0 2 = newRow (m2 + 1) := by
    unfold keepR
    rw [if_pos (by decide)]
    simp only [upd, sm, if_true, Nat.reduceEqDiff, if_false]
    exact r2
  have k3 : keepR (rows3 (m1 + 1) (m2 + 1) (m3 + 1)) fstB 8188 3 true 0 3 = ⟨true, fstB⟩ :: newRow m3 := by
    unfold keepR
    rw [if_pos (by decide)]
    simp only [upd, sm, if_true, Nat.reduceEqDiff, if_false]
    rw [r3, takeRow_new]
  unfold findR
  have hs : sm false = 2 := rfl
  rw [hs, k2, k3, if_pos (.inr ⟨rfl, lookN_new _ _ _⟩), lookN_fst, lookB_fst]
  exact ⟨rfl, rfl⟩
end Go.Proofs.YtngcpcgioophcaaDoor

namespace Go.Proofs.YtngcpcgioophcaaDoor
open Go.RowKit

theorem neq_zblk (w : World) : (binOp .neq 29 (.agg #[.int .i64 0, .int .i64 0, .int .u32 0, .int .u64 0, .int .i64 0, .int .i64 0, .int .u32 0, .bool false, .bool false]) (.agg #[.int .i64 0, .int .i64 0, .int .u32 0, .int .u64 0, .int .i64 0, .int .i64 0, .int .u32 0, .bool false, .bool false])).run Tryd.prog w = .ok (.bool false) w := neq_self zblk w
theorem own_one (w : World) (M : Nat) (hM : w.heap.size = M) : OwnB (w.alloc (.cells #[.int .i64 3, .int .i64 1, .int .u32 4096, .int .u64 8192, .int .i64 0, .int .i64 3, .int .u32 0, .bool true, .bool false] 29)) M (.slice (some ⟨M, 0, none⟩) 1 1) [fstB] := by
  subst hM
  exact ⟨rfl, .inr ⟨w.heap.size, 1, _, rfl, Nat.le_refl _, heap_alloc_new w _, Nat.le_refl _, by decide, rfl, rfl⟩⟩
set_option maxHeartbeats 3200000 in
set_option maxRecDepth 100000 in
theorem only_no (n1 n2 n3 : Int) (h : ¬ (Ok1 n1 ∧ Ok1 n2 ∧ Ok1 n3)) (p : Option Addr) (len cap : Nat) (w : World) :
    Calls Tryd.prog 16 #[.int .i64 n1, .int .i64 n2, .int .i64 n3, .slice p len cap] w fun e w' => e = .returned (.bool true) ∧ Below w.heap.size w w' := by
  have NN0 : Calls Tryd.prog 38 #[.int .i64 n1, .int .i64 n2, .int .i64 n3] w fun e w' => e = .returned (.tuple #[.pointer none, .int .i64 100]) ∧ Below w.heap.size w w' := by
    unfold Ok1 at h
    by_cases h1 : 1 ≤ n1 ∧ n1 ≤ 64
    · obtain ⟨m1, rfl⟩ := Int.eq_ofNat_of_zero_le (show 0 ≤ n1 by omega)
      by_cases h2 : 1 ≤ n2 ∧ n2 ≤ 64
      · obtain ⟨m2, rfl⟩ := Int.eq_ofNat_of_zero_le (show 0 ≤ n2 by omega)
        exact hier_New_no3 m1 m2 n3 (by omega) (by omega) (by omega) (by omega) (by omega) w
      · exact hier_New_no2 m1 n2 n3 (by omega) (by omega) (by omega) w
    · exact hier_New_no1 n1 n2 n3 (by omega) w
  have NN := Lib.hid NN0
  clear NN0
  have h6 : n1 < 1 ∨ (1 ≤ n1 ∧ 64 < n1) ∨ (1 ≤ n1 ∧ n1 ≤ 64 ∧ n2 < 1) ∨ (1 ≤ n1 ∧ n1 ≤ 64 ∧ 1 ≤ n2 ∧ 64 < n2) ∨ (1 ≤ n1 ∧ n1 ≤ 64 ∧ 1 ≤ n2 ∧ n2 ≤ 64 ∧ n3 < 1) ∨ (1 ≤ n1 ∧ n1 ≤ 64 ∧ 1 ≤ n2 ∧ n2 ≤ 64 ∧ 1 ≤ n3 ∧ 64 < n3) := by unfold Ok1 at h; omega
  clear h
  rcases h6 with a | ⟨a, b⟩ | ⟨a, b, c⟩ | ⟨a, b, c, d⟩ | ⟨a, b, c, d, e⟩ | ⟨a, b, c, d, e, f⟩
  all_goals
    go_enter Tryd.func16, Tryd.ntmps16
    go_wp2_with fail
    refine NN.out.mono ?_
    rintro e' w1 ⟨rfl, b1⟩
    go_wp2_with fail
    go_ret
    exact ⟨by first | rfl | (simp; done) | (simp; omega), b1⟩
set_option maxHeartbeats 12800000 in
set_option maxRecDepth 100000 in
theorem only_yes (m1 m2 m3 : Nat) (a1 : m1 < 64) (a2 : m2 < 64) (a3 : m3 < 64) (p : Option Addr) (cap : Nat) (os : List Op11) (w : World) (hs : Shf w)
    (hos : ∀ o ∈ os, o.Ok) (hOm : os.length * 120 ≤ 140737488351232) (hO : OpsIn11 w.heap.size w p os) :
    Calls Tryd.prog 16 #[.int .i64 (m1 + 1 : Nat), .int .i64 (m2 + 1 : Nat), .int .i64 (m3 + 1 : Nat), .slice p os.length cap] w fun e w' => e = .returned (.bool true) ∧ Below w.heap.size w w' := by
  have hml : os.length < 9223372036854775808 := by omega
  have HOM := Lib.hid hOm
  have HOS := Lib.hid hos
  clear hOm hos
  have HN := Lib.hid (hier_New_yes (m1 + 1) (m2 + 1) (m3 + 1) (by omega) (by omega) (by omega) (by omega) (by omega) (by omega) w hs)
  have FF := fst_find m1 m2 m3
  have R1 := rows3_ok (m1 + 1) (m2 + 1) (m3 + 1)
  have R2 := rows3_only (m1 + 1) (m2 + 1) (m3 + 1) [fstB]
  obtain ⟨xs0, hxs0⟩ : ∃ xs0, rows3 (m1 + 1) (m2 + 1) (m3 + 1) = xs0 := ⟨_, rfl⟩
  rw [hxs0] at FF R1 R2 HN
  obtain ⟨n1, hn1⟩ : ∃ n1 : Nat, m1 + 1 = n1 := ⟨_, rfl⟩
  obtain ⟨n2, hn2⟩ : ∃ n2 : Nat, m2 + 1 = n2 := ⟨_, rfl⟩
  obtain ⟨n3, hn3⟩ : ∃ n3 : Nat, m3 + 1 = n3 := ⟨_, rfl⟩
  rw [hn1, hn2, hn3] at HN
  rw [hn1, hn2, hn3]
  have i1 : (1 : Int) ≤ ↑n1 := by omega
  have i2 : (1 : Int) ≤ ↑n2 := by omega
  have i3 : (1 : Int) ≤ ↑n3 := by omega
  have j1 : (↑n1 : Int) ≤ 64 := by omega
  have j2 : (↑n2 : Int) ≤ 64 := by omega
  have j3 : (↑n3 : Int) ≤ 64 := by omega
  have K1 := keepR_ok3 R1 fst_ok 8188 3 true 0
  have K2 := keepR_only R2 fstB (List.mem_singleton.2 rfl) 8188 3 true 0
  have G1 := findR_ok _ K1 4096 3 false 0 false
  have G2 := findR_only K2 4096 3 false 0 false
  have KP0 : ∀ (W : World) (hb : Nat) (tb gb : Nat → Nat), Shf W → IsHier W hb tb gb xs0 → Calls Tryd.prog 40 #[.pointer (some ⟨hb, 0, none⟩), .agg #[.int .i64 3, .int .i64 1, .int .u32 4096, .int .u64 8192, .int .i64 0, .int .i64 3, .int .u32 0, .bool true, .bool false], .int .u32 8188, .int .i64 3, .bool true, .int .i64 0] W fun e w' => e = .returned (.int .i64 0) ∧ IsHier w' hb tb gb (keepR xs0 fstB 8188 3 true 0) ∧ GrownS W w' (In3 gb) :=
    fun W hb tb gb h1 h2 => hier_Keep_is fstB fst_ok 8188 3 true 0 (by decide) (by decide) hb tb gb xs0 R1 W h1 h2
  obtain ⟨xs1, hxs1⟩ : ∃ xs1, keepR xs0 fstB 8188 3 true 0 = xs1 := ⟨_, rfl⟩
  rw [hxs1] at FF K1 K2 G1 G2 KP0
  have FD0 : ∀ (W : World) (hb : Nat) (tb gb : Nat → Nat), Shf W → IsHier W hb tb gb xs1 → Calls Tryd.prog 41 #[.pointer (some ⟨hb, 0, none⟩), .int .u32 4096, .int .i64 3, .bool false, .int .i64 0, .bool false] W fun e w' => e = .returned (.tuple #[.agg #[.int .i64 3, .int .i64 1, .int .u32 4096, .int .u64 8192, .int .i64 0, .int .i64 3, .int .u32 0, .bool true, .bool false], .int .i64 1]) ∧ IsHier w' hb tb gb (findR xs1 4096 3 false 0 false).2.2 ∧ GrownS W w' (In3 gb) := by
    intro W hb tb gb h1 h2
    have := hier_Find_is 4096 3 false 0 (by decide) (by decide) false hb tb gb xs1 K1 W h1 h2
    unfold FindPost at this
    rw [FF.1, FF.2] at this
    exact this
  obtain ⟨xs2, hxs2⟩ : ∃ xs2, (findR xs1 4096 3 false 0 false).2.2 = xs2 := ⟨_, rfl⟩
  rw [hxs2] at G1 G2 FD0
  have KP := Lib.hid KP0
  have FD := Lib.hid FD0
  have G1 := Lib.hid G1
  have G2 := Lib.hid G2
  clear FF R1 R2 K1 K2 KP0 FD0 hxs0 hxs1 hxs2 hn1 hn2 hn3 a1 a2 a3
  have hne := neq_self fstB
  replace hne : ∀ w, (binOp .neq 29 (.agg #[.int .i64 3, .int .i64 1, .int .u32 4096, .int .u64 8192, .int .i64 0, .int .i64 3, .int .u32 0, .bool true, .bool false]) (.agg #[.int .i64 3, .int .i64 1, .int .u32 4096, .int .u64 8192, .int .i64 0, .int .i64 3, .int .u32 0, .bool true, .bool false])).run Tryd.prog w = .ok (.bool false) w := hne
  have hnz := neq_zblk
  obtain ⟨ii, hii, hz0, hz1', hz2⟩ := info_parts blk_info
  have HII := Lib.hid (And.intro hii (And.intro hz0 (And.intro hz1' hz2)))
  clear hii hz0 hz1' hz2
  go_enter Tryd.func16, Tryd.ntmps16
  go_wp2_with fail
  refine HN.out.mono ?_
  rintro e w1 ⟨hb, tb, gb, rfl, H1, F1, b1⟩
  have s1 := (hs.below hs.pos b1).alloc (.cells #[.int .i64 3, .int .i64 1, .int .u32 4096, .int .u64 8192, .int .i64 0, .int .i64 3, .int .u32 0, .bool true, .bool false] 29)
  have H2 := H1.alloc (.cells #[.int .i64 3, .int .i64 1, .int .u32 4096, .int .u64 8192, .int .i64 0, .int .i64 3, .int .u32 0, .bool true, .bool false] 29)
  have X2 : Blok (w1.alloc (.cells #[.int .i64 3, .int .i64 1, .int .u32 4096, .int .u64 8192, .int .i64 0, .int .i64 3, .int .u32 0, .bool true, .bool false] 29)) w1.heap.size 29 (#[.int .i64 3, .int .i64 1, .int .u32 4096, .int .u64 8192, .int .i64 0, .int .i64 3, .int .u32 0, .bool true, .bool false] : Array Value).toList := Blok.new w1 _ _
  have B2 := b1.alloc b1.size (.cells #[.int .i64 3, .int .i64 1, .int .u32 4096, .int .u64 8192, .int .i64 0, .int .i64 3, .int .u32 0, .bool true, .bool false] 29)
  have nX : ¬ In3 gb w1.heap.size := fun ⟨kk, c1, c3, e⟩ => by have := (H1.th.t kk c1 c3).sl.lt; omega
  have hgl : ∀ i, In3 gb i → w.heap.size ≤ i := fun i ⟨kk, c1, c3, e⟩ => by have := (F1.2 kk c1 c3).2; omega
  have sep1 : hb < w1.heap.size ∧ ∀ k, 1 ≤ k → k ≤ 3 → tb k < w1.heap.size ∧ gb k < w1.heap.size := ⟨H1.b.lt, fun k c1 c3 => ⟨(H1.th.t k c1 c3).hd.lt, (H1.th.t k c1 c3).sl.lt⟩⟩
  have zz := H1.th.zero
  go_wp2_with fail
  refine (KP.out _ _ _ _ s1 H2).mono ?_
  rintro e w2 ⟨rfl, H3, g3⟩
  have s3 := s1.gs g3 zz
  have X3 := X2.gs g3 nX
  have B3 := B2.trans (g3.bel B2.size hgl)
  have hw2 := g3.size
  simp at hw2
  clear H1 H2 s1 X2 B2 b1 g3 HN KP
  go_wp2_with fail
  refine (FD.out _ _ _ _ s3 H3).mono ?_
  rintro e w3 ⟨rfl, H4, g4⟩
  have s4 := s3.gs g4 zz
  have X4 := X3.gs g4 nX
  have B4 := B3.trans (g4.bel B3.size hgl)
  have hw3 := g4.size
  have Y4 : Blok (w3.alloc (.cells #[.int .i64 3, .int .i64 1, .int .u32 4096, .int .u64 8192, .int .i64 0, .int .i64 3, .int .u32 0, .bool true, .bool false] 29)) w3.heap.size 29 (#[.int .i64 3, .int .i64 1, .int .u32 4096, .int .u64 8192, .int .i64 0, .int .i64 3, .int .u32 0, .bool true, .bool false] : Array Value).toList := Blok.new w3 _ _
  have X5 := X4.alloc (.cells #[.int .i64 3, .int .i64 1, .int .u32 4096, .int .u64 8192, .int .i64 0, .int .i64 3, .int .u32 0, .bool true, .bool false] 29)
  (have c0 : ((w3.alloc (.cells #[.int .i64 3, .int .i64 1, .int .u32 4096, .int .u64 8192, .int .i64 0, .int .i64 3, .int .u32 0, .bool true, .bool false] 29))).cell? ⟨w1.heap.size, 0, none⟩ = some (.int .i64 3) := (X5).cell 0; have c1 : ((w3.alloc (.cells #[.int .i64 3, .int .i64 1, .int .u32 4096, .int .u64 8192, .int .i64 0, .int .i64 3, .int .u32 0, .bool true, .bool false] 29))).cell? ⟨w1.heap.size, 1, none⟩ = some (.int .i64 1) := (X5).cell 1; have c2 : ((w3.alloc (.cells #[.int .i64 3, .int .i64 1, .int .u32 4096, .int .u64 8192, .int .i64 0, .int .i64 3, .int .u32 0, .bool true, .bool false] 29))).cell? ⟨w1.heap.size, 2, none⟩ = some (.int .u32 4096) := (X5).cell 2; have c3 : ((w3.alloc (.cells #[.int .i64 3, .int .i64 1, .int .u32 4096, .int .u64 8192, .int .i64 0, .int .i64 3, .int .u32 0, .bool true, .bool false] 29))).cell? ⟨w1.heap.size, 3, none⟩ = some (.int .u64 8192) := (X5).cell 3; have c4 : ((w3.alloc (.cells #[.int .i64 3, .int .i64 1, .int .u32 4096, .int .u64 8192, .int .i64 0, .int .i64 3, .int .u32 0, .bool true, .bool false] 29))).cell? ⟨w1.heap.size, 4, none⟩ = some (.int .i64 0) := (X5).cell 4; have c5 : ((w3.alloc (.cells #[.int .i64 3, .int .i64 1, .int .u32 4096, .int .u64 8192, .int .i64 0, .int .i64 3, .int .u32 0, .bool true, .bool false] 29))).cell? ⟨w1.heap.size, 5, none⟩ = some (.int .i64 3) := (X5).cell 5; have c6 : ((w3.alloc (.cells #[.int .i64 3, .int .i64 1, .int .u32 4096, .int .u64 8192, .int .i64 0, .int .i64 3, .int .u32 0, .bool true, .bool false] 29))).cell? ⟨w1.heap.size, 6, none⟩ = some (.int .u32 0) := (X5).cell 6; have c7 : ((w3.alloc (.cells #[.int .i64 3, .int .i64 1, .int .u32 4096, .int .u64 8192, .int .i64 0, .int .i64 3, .int .u32 0, .bool true, .bool false] 29))).cell? ⟨w1.heap.size, 7, none⟩ = some (.bool true) := (X5).cell 7; have c8 : ((w3.alloc (.cells #[.int .i64 3, .int .i64 1, .int .u32 4096, .int .u64 8192, .int .i64 0, .int .i64 3, .int .u32 0, .bool true, .bool false] 29))).cell? ⟨w1.heap.size, 8, none⟩ = some (.bool false) := (X5).cell 8)
  (have d0 : ((w3.alloc (.cells #[.int .i64 3, .int .i64 1, .int .u32 4096, .int .u64 8192, .int .i64 0, .int .i64 3, .int .u32 0, .bool true, .bool false] 29))).cell? ⟨w3.heap.size, 0, none⟩ = some (.int .i64 3) := (Y4).cell 0; have d1 : ((w3.alloc (.cells #[.int .i64 3, .int .i64 1, .int .u32 4096, .int .u64 8192, .int .i64 0, .int .i64 3, .int .u32 0, .bool true, .bool false] 29))).cell? ⟨w3.heap.size, 1, none⟩ = some (.int .i64 1) := (Y4).cell 1; have d2 : ((w3.alloc (.cells #[.int .i64 3, .int .i64 1, .int .u32 4096, .int .u64 8192, .int .i64 0, .int .i64 3, .int .u32 0, .bool true, .bool false] 29))).cell? ⟨w3.heap.size, 2, none⟩ = some (.int .u32 4096) := (Y4).cell 2; have d3 : ((w3.alloc (.cells #[.int .i64 3, .int .i64 1, .int .u32 4096, .int .u64 8192, .int .i64 0, .int .i64 3, .int .u32 0, .bool true, .bool false] 29))).cell? ⟨w3.heap.size, 3, none⟩ = some (.int .u64 8192) := (Y4).cell 3; have d4 : ((w3.alloc (.cells #[.int .i64 3, .int .i64 1, .int .u32 4096, .int .u64 8192, .int .i64 0, .int .i64 3, .int .u32 0, .bool true, .bool false] 29))).cell? ⟨w3.heap.size, 4, none⟩ = some (.int .i64 0) := (Y4).cell 4; have d5 : ((w3.alloc (.cells #[.int .i64 3, .int .i64 1, .int .u32 4096, .int .u64 8192, .int .i64 0, .int .i64 3, .int .u32 0, .bool true, .bool false] 29))).cell? ⟨w3.heap.size, 5, none⟩ = some (.int .i64 3) := (Y4).cell 5; have d6 : ((w3.alloc (.cells #[.int .i64 3, .int .i64 1, .int .u32 4096, .int .u64 8192, .int .i64 0, .int .i64 3, .int .u32 0, .bool true, .bool false] 29))).cell? ⟨w3.heap.size, 6, none⟩ = some (.int .u32 0) := (Y4).cell 6; have d7 : ((w3.alloc (.cells #[.int .i64 3, .int .i64 1, .int .u32 4096, .int .u64 8192, .int .i64 0, .int .i64 3, .int .u32 0, .bool true, .bool false] 29))).cell? ⟨w3.heap.size, 7, none⟩ = some (.bool true) := (Y4).cell 7; have d8 : ((w3.alloc (.cells #[.int .i64 3, .int .i64 1, .int .u32 4096, .int .u64 8192, .int .i64 0, .int .i64 3, .int .u32 0, .bool true, .bool false] 29))).cell? ⟨w3.heap.size, 8, none⟩ = some (.bool false) := (Y4).cell 8)
  have I0 : HInv w (w3.heap.size + 1) hb tb gb ((w3.alloc (.cells #[.int .i64 3, .int .i64 1, .int .u32 4096, .int .u64 8192, .int .i64 0, .int .i64 3, .int .u32 0, .bool true, .bool false] 29)).alloc (.cells #[.int .i64 3, .int .i64 1, .int .u32 4096, .int .u64 8192, .int .i64 0, .int .i64 3, .int .u32 0, .bool true, .bool false] 29)) (.slice (some ⟨w3.heap.size + 1, 0, none⟩) 1 1) [fstB] xs2 :=
    ⟨own_one _ _ (by simp), (H4.alloc _).alloc _, G1.out, G2.out, (fun b hb => by rw [List.mem_singleton.1 hb]; exact fst_ok), (s4.alloc _).alloc _, (B4.alloc B4.size _).alloc (by have := B4.size; simp; omega) _, by simp⟩
  have SEP : Hid (HSep w.heap.size (w3.heap.size + 1) hb tb gb) := Lib.hid ⟨⟨by have := sep1.1; omega, fun k c1 c3 => by have := sep1.2 k c1 c3; omega⟩, fun k c1 c3 => (F1.2 k c1 c3).2, by have := B4.size; omega⟩
  obtain ⟨M, hM⟩ : ∃ M, w3.heap.size + 1 = M := ⟨_, rfl⟩
  rw [hM] at I0 SEP
  clear s3 X3 B3 H3 g4 FD sep1 F1 zz hgl nX s4 X4 B4 H4 Y4 X5
  go_wp2_with fail
  clear hM
  go_loopw [15, 16] (fun v15 v16 wr => ∃ (k : Nat) (KL : List Blk) (xs : Nat → List Slot), k ≤ os.length ∧ v16 = .int .i64 k ∧ KL.length ≤ k + 1 ∧ HInv w M hb tb gb wr v15 KL xs) (fun _ v16 _ => os.length - (intOf v16).toNat)
  case atStart => exact ⟨0, [fstB], xs2, Nat.zero_le _, rfl, by simp, I0⟩
  case round =>
    clear I0
    obtain ⟨k, KL, xs, hk, rfl, hkl, I⟩ := hrel
    obtain ⟨A3, cv3, hv, -, -, -, -⟩ := I.own.form
    subst hv
    by_cases hlt : k < os.length
    · obtain ⟨o, hok⟩ : ∃ o, os[k]? = some o := ⟨_, List.getElem?_eq_getElem hlt⟩
      obtain ⟨b, k0, hp, hbl, hc⟩ := hO k o hok
      subst hp
      have HRG : Hid (wr.rangeAt b (k0 + k * 19) [.int .i64 o.kind, .int .i64 o.asid, .int .i64 o.pick, .int .i64 o.which, .int .u32 o.va, .bool o.fetch, .bool o.mf, .int .i64 o.blk.asid, .int .i64 o.blk.size, .int .u32 o.blk.va, .int .u64 o.blk.pa, .int .i64 o.blk.dom, .int .i64 o.blk.ap, .int .u32 o.blk.bits, .bool o.blk.ng, .bool o.blk.xn, .int .i64 o.drop.kind, .int .u32 o.drop.va, .int .i64 o.drop.asid]) := Lib.hid (fun j v hv => (I.bel.cell hbl).trans (hc j v hv))
      have HOO := Lib.hid (HOS.out o (List.mem_of_getElem? hok))
      have X0 : Blok (wr.alloc (.cells #[.int .i64 0, .int .i64 0, .int .i64 0, .int .i64 0, .int .u32 0, .bool false, .bool false, .int .i64 0, .int .i64 0, .int .u32 0, .int .u64 0, .int .i64 0, .int .i64 0, .int .u32 0, .bool false, .bool false, .int .i64 0, .int .u32 0, .int .i64 0] 79)) wr.heap.size 79 (#[.int .i64 0, .int .i64 0, .int .i64 0, .int .i64 0, .int .u32 0, .bool false, .bool false, .int .i64 0, .int .i64 0, .int .u32 0, .int .u64 0, .int .i64 0, .int .i64 0, .int .u32 0, .bool false, .bool false, .int .i64 0, .int .u32 0, .int .i64 0] : Array Value).toList := Blok.new wr _ _
      have i0 : (0 : Int) ≤ ↑k := by omega
      have i1 : (↑k : Int) < ↑os.length := by omega
      have KLL := Lib.hid (show KL.length ≤ k + 1 from hkl)
      clear hok hc hkl
      go_upto_block 2 with (first
        | (refine wpList_load_mid rfl 79 (.tmp 108) rfl b (k0 + k * 19) rfl [.int .i64 o.kind, .int .i64 o.asid, .int .i64 o.pick, .int .i64 o.which, .int .u32 o.va, .bool o.fetch, .bool o.mf, .int .i64 o.blk.asid, .int .i64 o.blk.size, .int .u32 o.blk.va, .int .u64 o.blk.pa, .int .i64 o.blk.dom, .int .i64 o.blk.ap, .int .u32 o.blk.bits, .bool o.blk.ng, .bool o.blk.xn, .int .i64 o.drop.kind, .int .u32 o.drop.va, .int .i64 o.drop.asid] _ HRG.out Tryd.underlying79 rfl (by kernel_rfl) ?_)
        | (refine wpList_store_all rfl _ (.tmp 17) (.tmp 109) rfl wr.heap.size #[.int .i64 o.kind, .int .i64 o.asid, .int .i64 o.pick, .int .i64 o.which, .int .u32 o.va, .bool o.fetch, .bool o.mf, .int .i64 o.blk.asid, .int .i64 o.blk.size, .int .u32 o.blk.va, .int .u64 o.blk.pa, .int .i64 o.blk.dom, .int .i64 o.blk.ap, .int .u32 o.blk.bits, .bool o.blk.ng, .bool o.blk.xn, .int .i64 o.drop.kind, .int .u32 o.drop.va, .int .i64 o.drop.asid] rfl rfl X0 rfl (by kernel_rfl) rfl ?_; intro w4 X1 hg4 hz4; have I1 := I.below (below_new hg4); have q0 : w4.cell? ⟨wr.heap.size, 0, none⟩ = some (.int .i64 o.kind) := X1.cell 0))
      have nX : ¬ In3 gb wr.heap.size := fun ⟨kk, a1, a3, e⟩ => by have := (I.h.th.t kk a1 a3).sl.lt; omega
      have hob := X1.lt
      have hown := I.own
      obtain ⟨ob, hobe⟩ : ∃ ob, wr.heap.size = ob := ⟨_, rfl⟩
      rw [hobe] at X1 nX hob
      simp only [hobe]
      have hobO : (Value.slice A3 KL.length cv3).ownBlock ≠ some ob := fun e => by have := (hown.block e).2; omega
      clear X0 hg4 hz4 I hobe q0 HRG
      have AM : ∀ (L : List Blk) (b : Blk) (W : World) (A : Option Addr) (c : Nat), b ∈ L → L.length ≤ k + 2 → OwnB W M (.slice A L.length c) L → Calls Tryd.prog 42 #[.slice A L.length c, (.agg #[.int .i64 b.asid, .int .i64 b.size, .int .u32 b.va, .int .u64 b.pa, .int .i64 b.dom, .int .i64 b.ap, .int .u32 b.bits, .bool b.ng, .bool b.xn])] W fun e w' => e = .returned (.bool true) ∧ Below W.heap.size W w' := by
        intro L b W A c hb hL ho
        obtain ⟨A4, c4, hv, hS, -, -, -⟩ := ho.form
        obtain ⟨rfl, -, rfl⟩ := Value.slice.inj hv
        have := among_is L b A c (by have := HOM.out; omega) W hS
        rwa [amongB_mem.2 hb] at this
      have AM := Lib.hid AM
      go_cut [15] (fun v15 wc => ∃ (KL' : List Blk) (xs' : Nat → List Slot), KL'.length ≤ k + 2 ∧ HInv w M hb tb gb wc v15 KL' xs')
      case first =>
        (have c0 : (w4).cell? ⟨ob, 0, none⟩ = some (.int .i64 o.kind) := (X1).cell 0; have c1 : (w4).cell? ⟨ob, 1, none⟩ = some (.int .i64 o.asid) := (X1).cell 1; have c2 : (w4).cell? ⟨ob, 2, none⟩ = some (.int .i64 o.pick) := (X1).cell 2; have c3 : (w4).cell? ⟨ob, 3, none⟩ = some (.int .i64 o.which) := (X1).cell 3; have c4 : (w4).cell? ⟨ob, 4, none⟩ = some (.int .u32 o.va) := (X1).cell 4; have c5 : (w4).cell? ⟨ob, 5, none⟩ = some (.bool o.fetch) := (X1).cell 5; have c6 : (w4).cell? ⟨ob, 6, none⟩ = some (.bool o.mf) := (X1).cell 6; have c7 : (w4).cell? ⟨ob, 7, none⟩ = some (.int .i64 o.blk.asid) := (X1).cell 7; have c8 : (w4).cell? ⟨ob, 8, none⟩ = some (.int .i64 o.blk.size) := (X1).cell 8; have c9 : (w4).cell? ⟨ob, 9, none⟩ = some (.int .u32 o.blk.va) := (X1).cell 9; have c10 : (w4).cell? ⟨ob, 10, none⟩ = some (.int .u64 o.blk.pa) := (X1).cell 10; have c11 : (w4).cell? ⟨ob, 11, none⟩ = some (.int .i64 o.blk.dom) := (X1).cell 11; have c12 : (w4).cell? ⟨ob, 12, none⟩ = some (.int .i64 o.blk.ap) := (X1).cell 12; have c13 : (w4).cell? ⟨ob, 13, none⟩ = some (.int .u32 o.blk.bits) := (X1).cell 13; have c14 : (w4).cell? ⟨ob, 14, none⟩ = some (.bool o.blk.ng) := (X1).cell 14; have c15 : (w4).cell? ⟨ob, 15, none⟩ = some (.bool o.blk.xn) := (X1).cell 15; have c16 : (w4).cell? ⟨ob, 16, none⟩ = some (.int .i64 o.drop.kind) := (X1).cell 16; have c17 : (w4).cell? ⟨ob, 17, none⟩ = some (.int .u32 o.drop.va) := (X1).cell 17; have c18 : (w4).cell? ⟨ob, 18, none⟩ = some (.int .i64 o.drop.asid) := (X1).cell 18)
        have vas := HOO.out
        by_cases k1 : o.kind = 1
        · have t1 : (o.kind == 1) = true := by simp [k1]
          have FA0 := fun W h1 h2 => hier_Find_is o.va o.asid o.fetch o.pick vas.pick0 vas.pick1 o.mf hb tb gb xs I1.o W h1 h2
          have m1 := findR_le2 xs o.va o.asid o.fetch o.pick o.mf
          have m2 := findR_one I1.l o.va o.asid o.fetch o.pick o.mf
          have m3 := findR_ok xs I1.o o.va o.asid o.fetch o.pick o.mf
          have m4 := findR_only I1.l o.va o.asid o.fetch o.pick o.mf
          have m6 := findR_not xs o.va o.asid o.fetch o.pick o.mf
          unfold FindPost blkCells at FA0
          obtain ⟨fra, hfra⟩ : ∃ fra, findR xs o.va o.asid o.fetch o.pick o.mf = fra := ⟨_, rfl⟩
          rw [hfra] at FA0 m1 m2 m3 m4 m6
          obtain ⟨pb, m, ya⟩ := fra
          dsimp only at FA0 m1 m2 m3 m4 m6
          have FA := Lib.hid FA0
          have MM := Lib.hid (And.intro m2 (And.intro m3 (And.intro m4 m6)))
          clear FA0 m2 m3 m4 m6 hfra k1
          go_wp2_with fail
          refine (FA.out _ I1.shf I1.h).mono ?_
          rintro e w5 ⟨rfl, hH5, hg5⟩
          have I5 := (I1.inH SEP.out hg5 hH5 MM.out.2.1 MM.out.2.2.1).below ((Below.refl _ _).alloc (Nat.le_refl _) (.cells #[.int .i64 pb.asid, .int .i64 pb.size, .int .u32 pb.va, .int .u64 pb.pa, .int .i64 pb.dom, .int .i64 pb.ap, .int .u32 pb.bits, .bool pb.ng, .bool pb.xn] 29))
          have X5 := (X1.gs hg5 nX).alloc (.cells #[.int .i64 pb.asid, .int .i64 pb.size, .int .u32 pb.va, .int .u64 pb.pa, .int .i64 pb.dom, .int .i64 pb.ap, .int .u32 pb.bits, .bool pb.ng, .bool pb.xn] 29)
          have P5 : Blok (w5.alloc (.cells #[.int .i64 pb.asid, .int .i64 pb.size, .int .u32 pb.va, .int .u64 pb.pa, .int .i64 pb.dom, .int .i64 pb.ap, .int .u32 pb.bits, .bool pb.ng, .bool pb.xn] 29)) w5.heap.size 29 (blkCells pb) := Blok.new w5 _ _
          have M5 := (X1.gs hg5 nX).lt
          clear c0 c1 c2 c3 c4 c5 c6 c7 c8 c9 c10 c11 c12 c13 c14 c15 c16 c17 c18 X1 I1
          (have d0 : ((w5.alloc (.cells #[.int .i64 pb.asid, .int .i64 pb.size, .int .u32 pb.va, .int .u64 pb.pa, .int .i64 pb.dom, .int .i64 pb.ap, .int .u32 pb.bits, .bool pb.ng, .bool pb.xn] 29))).cell? ⟨w5.heap.size, 0, none⟩ = some (.int .i64 pb.asid) := (P5).cell 0; have d1 : ((w5.alloc (.cells #[.int .i64 pb.asid, .int .i64 pb.size, .int .u32 pb.va, .int .u64 pb.pa, .int .i64 pb.dom, .int .i64 pb.ap, .int .u32 pb.bits, .bool pb.ng, .bool pb.xn] 29))).cell? ⟨w5.heap.size, 1, none⟩ = some (.int .i64 pb.size) := (P5).cell 1; have d2 : ((w5.alloc (.cells #[.int .i64 pb.asid, .int .i64 pb.size, .int .u32 pb.va, .int .u64 pb.pa, .int .i64 pb.dom, .int .i64 pb.ap, .int .u32 pb.bits, .bool pb.ng, .bool pb.xn] 29))).cell? ⟨w5.heap.size, 2, none⟩ = some (.int .u32 pb.va) := (P5).cell 2; have d3 : ((w5.alloc (.cells #[.int .i64 pb.asid, .int .i64 pb.size, .int .u32 pb.va, .int .u64 pb.pa, .int .i64 pb.dom, .int .i64 pb.ap, .int .u32 pb.bits, .bool pb.ng, .bool pb.xn] 29))).cell? ⟨w5.heap.size, 3, none⟩ = some (.int .u64 pb.pa) := (P5).cell 3; have d4 : ((w5.alloc (.cells #[.int .i64 pb.asid, .int .i64 pb.size, .int .u32 pb.va, .int .u64 pb.pa, .int .i64 pb.dom, .int .i64 pb.ap, .int .u32 pb.bits, .bool pb.ng, .bool pb.xn] 29))).cell? ⟨w5.heap.size, 4, none⟩ = some (.int .i64 pb.dom) := (P5).cell 4; have d5 : ((w5.alloc (.cells #[.int .i64 pb.asid, .int .i64 pb.size, .int .u32 pb.va, .int .u64 pb.pa, .int .i64 pb.dom, .int .i64 pb.ap, .int .u32 pb.bits, .bool pb.ng, .bool pb.xn] 29))).cell? ⟨w5.heap.size, 5, none⟩ = some (.int .i64 pb.ap) := (P5).cell 5; have d6 : ((w5.alloc (.cells #[.int .i64 pb.asid, .int .i64 pb.size, .int .u32 pb.va, .int .u64 pb.pa, .int .i64 pb.dom, .int .i64 pb.ap, .int .u32 pb.bits, .bool pb.ng, .bool pb.xn] 29))).cell? ⟨w5.heap.size, 6, none⟩ = some (.int .u32 pb.bits) := (P5).cell 6; have d7 : ((w5.alloc (.cells #[.int .i64 pb.asid, .int .i64 pb.size, .int .u32 pb.va, .int .u64 pb.pa, .int .i64 pb.dom, .int .i64 pb.ap, .int .u32 pb.bits, .bool pb.ng, .bool pb.xn] 29))).cell? ⟨w5.heap.size, 7, none⟩ = some (.bool pb.ng) := (P5).cell 7; have d8 : ((w5.alloc (.cells #[.int .i64 pb.asid, .int .i64 pb.size, .int .u32 pb.va, .int .u64 pb.pa, .int .i64 pb.dom, .int .i64 pb.ap, .int .u32 pb.bits, .bool pb.ng, .bool pb.xn] 29))).cell? ⟨w5.heap.size, 8, none⟩ = some (.bool pb.xn) := (P5).cell 8)
          by_cases hm : m = 1
          · subst hm
            have hpb := (MM.out.1 rfl).1
            have hov := (MM.out.1 rfl).2
            have OV0 := fun W hW => tlb_Over_is pb (I5.ok pb hpb) o.va o.asid W hW
            rw [hov] at OV0
            have OV := Lib.hid OV0
            clear OV0 hov
            go_wp2_with fail
            refine (AM.out KL pb _ _ _ hpb (by have := KLL.out; omega) I5.own).mono ?_
            rintro e w6 ⟨rfl, b6⟩
            have I6 := I5.below b6
            have P6 := P5.below b6 P5.lt
            have X6 := X5.below b6 X5.lt
            clear d0 d1 d2 d3 d4 d5 d6 d7 d8
            (have d0 : (w6).cell? ⟨w5.heap.size, 0, none⟩ = some (.int .i64 pb.asid) := (P6).cell 0; have d1 : (w6).cell? ⟨w5.heap.size, 1, none⟩ = some (.int .i64 pb.size) := (P6).cell 1; have d2 : (w6).cell? ⟨w5.heap.size, 2, none⟩ = some (.int .u32 pb.va) := (P6).cell 2; have d3 : (w6).cell? ⟨w5.heap.size, 3, none⟩ = some (.int .u64 pb.pa) := (P6).cell 3; have d4 : (w6).cell? ⟨w5.heap.size, 4, none⟩ = some (.int .i64 pb.dom) := (P6).cell 4; have d5 : (w6).cell? ⟨w5.heap.size, 5, none⟩ = some (.int .i64 pb.ap) := (P6).cell 5; have d6 : (w6).cell? ⟨w5.heap.size, 6, none⟩ = some (.int .u32 pb.bits) := (P6).cell 6; have d7 : (w6).cell? ⟨w5.heap.size, 7, none⟩ = some (.bool pb.ng) := (P6).cell 7; have d8 : (w6).cell? ⟨w5.heap.size, 8, none⟩ = some (.bool pb.xn) := (P6).cell 8)
            have x1 : w6.cell? ⟨ob, 1, none⟩ = some (.int .i64 o.asid) := X6.cell 1
            have x4 : w6.cell? ⟨ob, 4, none⟩ = some (.int .u32 o.va) := X6.cell 4
            go_wp2_with fail
            refine (OV.out _ I6.shf).mono ?_
            rintro e w7 ⟨rfl, b7⟩
            go_wp2_with fail
            go_meet
            case rel => exact ⟨KL, ya, by have := KLL.out; omega, I6.below b7⟩
          · have hz := MM.out.2.2.2 hm
            subst hz
            obtain rfl | rfl : m = 0 ∨ m = 2 := by omega
            · go_wp2_with fail
              go_meet
              case rel => exact ⟨KL, ya, by have := KLL.out; omega, I5⟩
            · go_wp2_with fail
              go_meet
              case rel => exact ⟨KL, ya, by have := KLL.out; omega, I5⟩
        · have t1 : (o.kind == 1) = false := by simp [k1]
          by_cases k2 : o.kind = 2
          · have t2 : (o.kind == 2) = true := by simp [k2]
            have KP0 := fun W h1 h2 => hier_Keep_is o.blk vas.b o.va o.asid o.fetch o.pick vas.pick0 vas.pick1 hb tb gb xs I1.o W h1 h2
            have KO := keepR_ok3 I1.o vas.b o.va o.asid o.fetch o.pick
            have KQ := keepR_only (L := KL ++ [o.blk]) (I1.l.mono (fun _ h => List.mem_append_left _ h)) o.blk (List.mem_append_right _ (List.mem_singleton.2 rfl)) o.va o.asid o.fetch o.pick
            by_cases hov : overB o.blk o.va o.asid = true
            · have hkn : keepN o.blk o.va o.asid = 0 := by unfold keepN; rw [if_pos hov]
              have htr := transB_of o.blk (by unfold overB at hov; simp only [Bool.and_eq_true] at hov; exact hov.1.1)
              rw [hkn] at KP0
              have DR0 := fun W hW => desc_Right_is o.blk vas.b W hW
              rw [htr] at DR0
              obtain ⟨ys, hys⟩ : ∃ ys, keepR xs o.blk o.va o.asid o.fetch o.pick = ys := ⟨_, rfl⟩
              rw [hys] at KP0 KO KQ
              have KP := Lib.hid KP0
              have DR := Lib.hid DR0
              have KO := Lib.hid KO
              have KQ := Lib.hid KQ
              clear KP0 DR0 hov hkn htr hys k1 k2
              go_wp2_with fail
              refine (KP.out _ I1.shf I1.h).mono ?_
              rintro e w5 ⟨rfl, hH5, hg5⟩
              have X5 := X1.gs hg5 nX
              have I5 : HInvK w M hb tb gb w5 (.slice A3 KL.length cv3) KL := ⟨I1.own.keep (fun g2 hg2 hlt2 => hg5.block g2 hlt2 (fun ⟨kk, a1, a3, e⟩ => by have := (SEP.out.m.2 kk a1 a3).2; have := (I1.own.block hg2).1; omega)), I1.ok, I1.shf.gs hg5 I1.h.th.zero, I1.bel.trans (hg5.bel I1.bel.size (fun i ⟨kk, a1, a3, e⟩ => by have := SEP.out.l kk a1 a3; omega)), Nat.le_trans I1.mle hg5.size⟩
              clear c0 c1 c2 c3 c4 c5 c6 c7 c8 c9 c10 c11 c12 c13 c14 c15 c16 c17 c18 X1 I1
              (have c0 : (w5).cell? ⟨ob, 0, none⟩ = some (.int .i64 o.kind) := (X5).cell 0; have c1 : (w5).cell? ⟨ob, 1, none⟩ = some (.int .i64 o.asid) := (X5).cell 1; have c2 : (w5).cell? ⟨ob, 2, none⟩ = some (.int .i64 o.pick) := (X5).cell 2; have c3 : (w5).cell? ⟨ob, 3, none⟩ = some (.int .i64 o.which) := (X5).cell 3; have c4 : (w5).cell? ⟨ob, 4, none⟩ = some (.int .u32 o.va) := (X5).cell 4; have c5 : (w5).cell? ⟨ob, 5, none⟩ = some (.bool o.fetch) := (X5).cell 5; have c6 : (w5).cell? ⟨ob, 6, none⟩ = some (.bool o.mf) := (X5).cell 6; have c7 : (w5).cell? ⟨ob, 7, none⟩ = some (.int .i64 o.blk.asid) := (X5).cell 7; have c8 : (w5).cell? ⟨ob, 8, none⟩ = some (.int .i64 o.blk.size) := (X5).cell 8; have c9 : (w5).cell? ⟨ob, 9, none⟩ = some (.int .u32 o.blk.va) := (X5).cell 9; have c10 : (w5).cell? ⟨ob, 10, none⟩ = some (.int .u64 o.blk.pa) := (X5).cell 10; have c11 : (w5).cell? ⟨ob, 11, none⟩ = some (.int .i64 o.blk.dom) := (X5).cell 11; have c12 : (w5).cell? ⟨ob, 12, none⟩ = some (.int .i64 o.blk.ap) := (X5).cell 12; have c13 : (w5).cell? ⟨ob, 13, none⟩ = some (.int .u32 o.blk.bits) := (X5).cell 13; have c14 : (w5).cell? ⟨ob, 14, none⟩ = some (.bool o.blk.ng) := (X5).cell 14; have c15 : (w5).cell? ⟨ob, 15, none⟩ = some (.bool o.blk.xn) := (X5).cell 15; have c16 : (w5).cell? ⟨ob, 16, none⟩ = some (.int .i64 o.drop.kind) := (X5).cell 16; have c17 : (w5).cell? ⟨ob, 17, none⟩ = some (.int .u32 o.drop.va) := (X5).cell 17; have c18 : (w5).cell? ⟨ob, 18, none⟩ = some (.int .i64 o.drop.asid) := (X5).cell 18)
              have hnw : ∀ j u, (blkCells o.blk)[j]? = some u → (w5.alloc (.cells #[.int .i64 o.blk.asid, .int .i64 o.blk.size, .int .u32 o.blk.va, .int .u64 o.blk.pa, .int .i64 o.blk.dom, .int .i64 o.blk.ap, .int .u32 o.blk.bits, .bool o.blk.ng, .bool o.blk.xn] 29)).cell? ((⟨w5.heap.size, 0, none⟩ : Addr).add j) = some u := World.news_of_block (cs := #[.int .i64 o.blk.asid, .int .i64 o.blk.size, .int .u32 o.blk.va, .int .u64 o.blk.pa, .int .i64 o.blk.dom, .int .i64 o.blk.ap, .int .u32 o.blk.bits, .bool o.blk.ng, .bool o.blk.xn]) (heap_alloc_new w5 _)
              have HNW := Lib.hid hnw
              have Oa := I5.own.alloc (.cells #[.int .i64 o.blk.asid, .int .i64 o.blk.size, .int .u32 o.blk.va, .int .u64 o.blk.pa, .int .i64 o.blk.dom, .int .i64 o.blk.ap, .int .u32 o.blk.bits, .bool o.blk.ng, .bool o.blk.xn] 29)
              clear hnw
              go_wp2_with (refine wpList_append_lies _ rfl (.tmp 178) (.tmp 181) 71 rfl M 29 ii _ 9 56 Tryd.underlying71 HII.out.1 HII.out.2.1 HII.out.2.2.1 HII.out.2.2.2 rfl (by decide) (.slice A3 KL.length cv3) KL.length (bkFlat KL) rfl Oa ⟨w5.heap.size, 0, none⟩ 1 1 (blkCells o.blk) rfl rfl HNW.out (oneCell_blk o.blk) (by omega) (by unfold maxLen; have := HOM.out; have := KLL.out; omega) (by have := HOM.out; have := KLL.out; omega) (Nat.le_trans I5.mle (by simp)) _ rfl ?_; intro g7 cap7 w7 hown7 hgrow7 hat7 hlt7; have own7 : OwnB w7 M (.slice (some ⟨g7, 0, none⟩) (KL.length + 1) cap7) (KL ++ [o.blk]) := own_snoc hown7; have far7 : ∀ i, i < M → some i ≠ (Value.slice A3 KL.length cv3).ownBlock := (fun i hi e => by have := (I5.own.block e.symm).1; omega); have X7 : Blok w7 ob 79 (op11Cells o) := (X5.alloc _).grown hgrow7 (fun e => hobO (e.symm)); have x8 : w7.cell? ⟨ob, 8, none⟩ = some (.int .i64 o.blk.size) := X7.cell 8; have x9 : w7.cell? ⟨ob, 9, none⟩ = some (.int .u32 o.blk.va) := X7.cell 9; have x10 : w7.cell? ⟨ob, 10, none⟩ = some (.int .u64 o.blk.pa) := X7.cell 10; have x11 : w7.cell? ⟨ob, 11, none⟩ = some (.int .i64 o.blk.dom) := X7.cell 11; have x12 : w7.cell? ⟨ob, 12, none⟩ = some (.int .i64 o.blk.ap) := X7.cell 12; have x13 : w7.cell? ⟨ob, 13, none⟩ = some (.int .u32 o.blk.bits) := X7.cell 13; have x14 : w7.cell? ⟨ob, 14, none⟩ = some (.bool o.blk.ng) := X7.cell 14; have x15 : w7.cell? ⟨ob, 15, none⟩ = some (.bool o.blk.xn) := X7.cell 15)
              have I5a : HInvK w M hb tb gb (w5.alloc (.cells #[.int .i64 o.blk.asid, .int .i64 o.blk.size, .int .u32 o.blk.va, .int .u64 o.blk.pa, .int .i64 o.blk.dom, .int .i64 o.blk.ap, .int .u32 o.blk.bits, .bool o.blk.ng, .bool o.blk.xn] 29)) (.slice A3 KL.length cv3) KL := ⟨I5.own.alloc _, I5.ok, I5.shf.alloc _, I5.bel.alloc I5.bel.size _, Nat.le_trans I5.mle (by simp)⟩
              have I7 := I5a.app (hH5.alloc _) KO.out SEP.out KQ.out hgrow7 own7 HOO.out.b
              refine (DR.out _ I7.shf).mono ?_
              rintro e w8 ⟨rfl, b8⟩
              go_wp2_with fail
              go_meet
              case rel => exact ⟨KL ++ [o.blk], ys, by have := KLL.out; simp; omega, by have := I7.below b8; simpa using this⟩
            · have hkn : keepN o.blk o.va o.asid = 101 := by unfold keepN; rw [if_neg hov]
              have hkr : keepR xs o.blk o.va o.asid o.fetch o.pick = xs := by unfold keepR; rw [if_neg hov]
              rw [hkn, hkr] at KP0
              have KP := Lib.hid KP0
              clear KP0 KO KQ hov hkn hkr k1 k2
              go_wp2_with fail
              refine (KP.out _ I1.shf I1.h).mono ?_
              rintro e w5 ⟨rfl, hH5, hg5⟩
              have I5 := I1.inH SEP.out hg5 hH5 I1.o I1.l
              go_wp2_with fail
              go_meet
              case rel => exact ⟨KL, xs, by have := KLL.out; omega, I5⟩
          · have t2 : (o.kind == 2) = false := by simp [k2]
            by_cases k3 : o.kind = 3
            · have t3 : (o.kind == 3) = true := by simp [k3]
              have EV := Lib.hid (fun W h => hier_Evict_is o.which o.pick hb tb gb xs W h)
              have EO := evictR_ok I1.o o.which o.pick
              have EL := evictR_only I1.l o.which o.pick
              clear k1 k2 k3
              go_wp2_with fail
              refine (EV.out _ I1.h).mono ?_
              rintro e w5 ⟨rfl, hH5, hg5⟩
              have I5 := I1.inH SEP.out hg5 hH5 EO EL
              go_wp2_with fail
              go_meet
              case rel => exact ⟨KL, _, by have := KLL.out; omega, I5⟩
            · have t3 : (o.kind == 3) = false := by simp [k3]
              by_cases k4 : o.kind = 4
              · have t4 : (o.kind == 4) = true := by simp [k4]
                have DP := Lib.hid (fun W hW h => hier_Drop_is o.drop hb tb gb xs I1.o W hW h)
                have DO := dropR3_ok I1.o o.drop
                have DL := dropR3_only I1.l o.drop
                have DW := dropR3_onlyW I1.l o.drop
                clear k1 k2 k3 k4
                go_wp2_with fail
                refine (DP.out _ I1.shf I1.h).mono ?_
                rintro e w5 ⟨rfl, hH5, hg5⟩
                have I5 := I1.inH SEP.out hg5 hH5 DO DW
                have X5 := X1.gs hg5 nX
                clear c0 c1 c2 c3 c4 c5 c6 c7 c8 c9 c10 c11 c12 c13 c14 c15 c16 c17 c18
                (have c0 : (w5).cell? ⟨ob, 0, none⟩ = some (.int .i64 o.kind) := (X5).cell 0; have c1 : (w5).cell? ⟨ob, 1, none⟩ = some (.int .i64 o.asid) := (X5).cell 1; have c2 : (w5).cell? ⟨ob, 2, none⟩ = some (.int .i64 o.pick) := (X5).cell 2; have c3 : (w5).cell? ⟨ob, 3, none⟩ = some (.int .i64 o.which) := (X5).cell 3; have c4 : (w5).cell? ⟨ob, 4, none⟩ = some (.int .u32 o.va) := (X5).cell 4; have c5 : (w5).cell? ⟨ob, 5, none⟩ = some (.bool o.fetch) := (X5).cell 5; have c6 : (w5).cell? ⟨ob, 6, none⟩ = some (.bool o.mf) := (X5).cell 6; have c7 : (w5).cell? ⟨ob, 7, none⟩ = some (.int .i64 o.blk.asid) := (X5).cell 7; have c8 : (w5).cell? ⟨ob, 8, none⟩ = some (.int .i64 o.blk.size) := (X5).cell 8; have c9 : (w5).cell? ⟨ob, 9, none⟩ = some (.int .u32 o.blk.va) := (X5).cell 9; have c10 : (w5).cell? ⟨ob, 10, none⟩ = some (.int .u64 o.blk.pa) := (X5).cell 10; have c11 : (w5).cell? ⟨ob, 11, none⟩ = some (.int .i64 o.blk.dom) := (X5).cell 11; have c12 : (w5).cell? ⟨ob, 12, none⟩ = some (.int .i64 o.blk.ap) := (X5).cell 12; have c13 : (w5).cell? ⟨ob, 13, none⟩ = some (.int .u32 o.blk.bits) := (X5).cell 13; have c14 : (w5).cell? ⟨ob, 14, none⟩ = some (.bool o.blk.ng) := (X5).cell 14; have c15 : (w5).cell? ⟨ob, 15, none⟩ = some (.bool o.blk.xn) := (X5).cell 15; have c16 : (w5).cell? ⟨ob, 16, none⟩ = some (.int .i64 o.drop.kind) := (X5).cell 16; have c17 : (w5).cell? ⟨ob, 17, none⟩ = some (.int .u32 o.drop.va) := (X5).cell 17; have c18 : (w5).cell? ⟨ob, 18, none⟩ = some (.int .i64 o.drop.asid) := (X5).cell 18)
                obtain ⟨A4, c4', hv4, hS4, -, -, -⟩ := I5.own.form
                obtain ⟨rfl, -, rfl⟩ := Value.slice.inj hv4
                have WO := Lib.hid (without_is KL I5.ok o.drop A3 cv3 (by have := HOM.out; have := KLL.out; omega) w5 I5.shf hS4)
                clear hS4 hv4 DO DW
                go_wp2_with fail
                refine WO.out.mono ?_
                rintro e w6 ⟨v6, rfl, own6, b6⟩
                have I6 := I5.drop b6 own6 DL
                go_wp2_with fail
                go_meet
                case rel => exact ⟨_, _, by have := KLL.out; have := List.length_filter_le (fun b => !takesB o.drop b) KL; unfold leftB; omega, I6⟩
              · have t4 : (o.kind == 4) = false := by simp [k4]
                clear k1 k2 k3 k4
                go_wp2_with fail
                go_meet
                case rel => exact ⟨KL, xs, by have := KLL.out; omega, I1⟩
      case rest =>
        clear X1 nX hob I1 hown
        obtain ⟨KL', xs', hkl', I⟩ := hcut
        obtain ⟨A5, c5, hv, -, -, -, -⟩ := I.own.form
        subst hv
        go_wp2_with fail
        go_loopw [20] (fun v20 wq => ∃ j : Nat, 1 ≤ j ∧ j ≤ 4 ∧ v20 = .int .i64 j ∧ HInv w M hb tb gb wq (.slice A5 KL'.length c5) KL' xs') (fun v20 _ => 4 - (intOf v20).toNat)
        case atStart => exact ⟨1, by omega, by omega, rfl, I⟩
        case round =>
          clear I
          obtain ⟨j, hj1, hj4, rfl, I⟩ := hrel
          by_cases hlj : j ≤ 3
          · have HF0 := hier_Places_yes j hj1 hlj hb tb gb xs' _ I.h
            have hle := (I.h.th.t j hj1 hlj).le
            have hon := I.l j hj1 hlj
            obtain ⟨ys, hys⟩ : ∃ ys, xs' j = ys := ⟨_, rfl⟩
            rw [hys] at HF0 hle hon
            have HF := Lib.hid HF0
            have HON := Lib.hid hon
            clear HF0 hys hon
            go_wp2_with fail
            refine HF.out.mono ?_
            rintro e w5 ⟨rfl, L5, z5, b5⟩
            have I5 := I.below b5
            obtain ⟨lb, hlb⟩ : ∃ lb, wr.heap.size = lb := ⟨_, rfl⟩
            rw [hlb] at L5
            simp only [hlb]
            clear hlb z5 b5 I HF
            go_wp2_with fail
            have hj3 : (j : Int) ≤ 3 := by omega
            simp only [decide_eq_true hj3]
            go_loopw [22] (fun v22 wq => ∃ i : Nat, i ≤ ys.length ∧ v22 = .int .i64 i ∧ Blok wq lb 50 (rowCells ys) ∧ HInv w M hb tb gb wq (.slice A5 KL'.length c5) KL' xs') (fun v22 _ => ys.length - (intOf v22).toNat)
            case atStart => exact ⟨0, Nat.zero_le _, rfl, L5, I5⟩
            case round =>
              clear L5 I5
              obtain ⟨i, hi, rfl, Lq, Iq⟩ := hrel
              by_cases hli : i < ys.length
              · obtain ⟨s, hsk⟩ : ∃ s, ys[i]? = some s := ⟨_, List.getElem?_eq_getElem hli⟩
                obtain ⟨full, bb⟩ := s
                have hcs : ∀ q (_ : q < 10), wr.cell? ⟨lb, i * 10 + q, none⟩ = (slotCells ⟨full, bb⟩)[q]? := fun q hq => by rw [Lq.cell, rowCells_at ys i q _ hsk hq]
                have hmem := HON.out _ (List.mem_of_getElem? hsk)
                have z0 : (0 : Int) ≤ ↑i := by omega
                have z1 : (↑i : Int) < ↑ys.length := by omega
                clear hsk
                cases full
                · (have d0 : (wr).cell? ⟨lb, i * 10, none⟩ = some (.bool false) := hcs 0 (by omega); have d1 : (wr).cell? ⟨lb, i * 10 + 1, none⟩ = some (.int .i64 bb.asid) := hcs 1 (by omega); have d2 : (wr).cell? ⟨lb, i * 10 + 2, none⟩ = some (.int .i64 bb.size) := hcs 2 (by omega); have d3 : (wr).cell? ⟨lb, i * 10 + 3, none⟩ = some (.int .u32 bb.va) := hcs 3 (by omega); have d4 : (wr).cell? ⟨lb, i * 10 + 4, none⟩ = some (.int .u64 bb.pa) := hcs 4 (by omega); have d5 : (wr).cell? ⟨lb, i * 10 + 5, none⟩ = some (.int .i64 bb.dom) := hcs 5 (by omega); have d6 : (wr).cell? ⟨lb, i * 10 + 6, none⟩ = some (.int .i64 bb.ap) := hcs 6 (by omega); have d7 : (wr).cell? ⟨lb, i * 10 + 7, none⟩ = some (.int .u32 bb.bits) := hcs 7 (by omega); have d8 : (wr).cell? ⟨lb, i * 10 + 8, none⟩ = some (.bool bb.ng) := hcs 8 (by omega); have d9 : (wr).cell? ⟨lb, i * 10 + 9, none⟩ = some (.bool bb.xn) := hcs 9 (by omega))
                  clear hcs hmem
                  go_wp2_with fail
                  go_roundw
                  case rel => exact ⟨i + 1, by omega, by go_num, Lq, Iq⟩
                  case measure => simp [intOf]; omega
                · (have d0 : (wr).cell? ⟨lb, i * 10, none⟩ = some (.bool true) := hcs 0 (by omega); have d1 : (wr).cell? ⟨lb, i * 10 + 1, none⟩ = some (.int .i64 bb.asid) := hcs 1 (by omega); have d2 : (wr).cell? ⟨lb, i * 10 + 2, none⟩ = some (.int .i64 bb.size) := hcs 2 (by omega); have d3 : (wr).cell? ⟨lb, i * 10 + 3, none⟩ = some (.int .u32 bb.va) := hcs 3 (by omega); have d4 : (wr).cell? ⟨lb, i * 10 + 4, none⟩ = some (.int .u64 bb.pa) := hcs 4 (by omega); have d5 : (wr).cell? ⟨lb, i * 10 + 5, none⟩ = some (.int .i64 bb.dom) := hcs 5 (by omega); have d6 : (wr).cell? ⟨lb, i * 10 + 6, none⟩ = some (.int .i64 bb.ap) := hcs 6 (by omega); have d7 : (wr).cell? ⟨lb, i * 10 + 7, none⟩ = some (.int .u32 bb.bits) := hcs 7 (by omega); have d8 : (wr).cell? ⟨lb, i * 10 + 8, none⟩ = some (.bool bb.ng) := hcs 8 (by omega); have d9 : (wr).cell? ⟨lb, i * 10 + 9, none⟩ = some (.bool bb.xn) := hcs 9 (by omega))
                  have hbm : bb ∈ KL' := hmem rfl
                  clear hcs hmem
                  go_wp2_with fail
                  refine (AM.out KL' bb _ _ _ hbm hkl' Iq.own).mono ?_
                  rintro e w6 ⟨rfl, b6⟩
                  go_wp2_with fail
                  go_roundw
                  case rel => exact ⟨i + 1, by omega, by go_num, Lq.below b6 Lq.lt, Iq.below b6⟩
                  case measure => simp [intOf]; omega
              · go_wp2_with fail
                go_roundw
                case rel => exact ⟨j + 1, by omega, by omega, by go_num, Iq⟩
                case measure => simp [intOf]; omega
          · go_wp2_with fail
            go_roundw
            case rel => exact ⟨k + 1, KL', xs', by omega, by go_num, by omega, I⟩
            case measure => simp [intOf]; omega
    · go_wp2
      go_ret
      exact ⟨rfl, I.bel⟩
theorem only_walk (n1 n2 n3 : Int) (p : Option Addr) (cap : Nat) (os : List Op11) (hos : ∀ o ∈ os, o.Ok ∧ 0 ≤ o.va ∧ o.va ≤ 4294967295) (hOm : os.length * 120 ≤ 140737488351232) (w : World) (hs : Shf w) (hO : OpsIn11 w.heap.size w p os) :
    Calls Tryd.prog 16 #[.int .i64 n1, .int .i64 n2, .int .i64 n3, .slice p os.length cap] w fun e w' => e = .returned (.bool true) ∧ Below w.heap.size w w' := by
  by_cases h : Ok1 n1 ∧ Ok1 n2 ∧ Ok1 n3
  · obtain ⟨⟨a1, b1⟩, ⟨a2, b2⟩, ⟨a3, b3⟩⟩ := h
    obtain ⟨m1, rfl⟩ := Int.eq_ofNat_of_zero_le (show 0 ≤ n1 by omega)
    obtain ⟨m2, rfl⟩ := Int.eq_ofNat_of_zero_le (show 0 ≤ n2 by omega)
    obtain ⟨m3, rfl⟩ := Int.eq_ofNat_of_zero_le (show 0 ≤ n3 by omega)
    obtain ⟨k1, rfl⟩ : ∃ k, m1 = k + 1 := ⟨m1 - 1, by omega⟩
    obtain ⟨k2, rfl⟩ : ∃ k, m2 = k + 1 := ⟨m2 - 1, by omega⟩
    obtain ⟨k3, rfl⟩ : ∃ k, m3 = k + 1 := ⟨m3 - 1, by omega⟩
    exact only_yes k1 k2 k3 (by omega) (by omega) (by omega) p cap os w hs (fun o ho => (hos o ho).1) hOm hO
  · exact only_no n1 n2 n3 h p os.length cap w
end Go.Proofs.YtngcpcgioophcaaDoor

namespace Go.Proofs.YtngcpcgioophcaaDoor.hierOnly
open Go.ChangeShapes Go.WideShapes Go.ChangeAt Go.RowKit
set_option maxRecDepth 100000

theorem contract (H : Type) (enc : TypeId × Value → H) (W : World) (base : Nat) (args : Array Value) (ds gs : List (DataW H)) (before : List MemPlace)
    (hval : ∀ (j : Nat) t v, Tryd.f16.params[j]? = some t → args[j]? = some v → Value.okWide Tryd.prog W .any base t v)
    (hW : DataW.Whole enc Tryd.prog Tryd.f16.params.toList Rows.hierOnlySpec.vars false W args.toList ds gs before) (hL : laidMetH Tryd.prog Rows.hierOnlyRow.laid W) (hsz0 : (DataW.weightsEach Tryd.prog (Tryd.f16.params.toList ++ (OpenSpec.ofChange Rows.hierOnlySpec).bare.plain.varTypes Tryd.prog) (ds ++ gs)).all (· ≤ reachBytes) = true) :
    Calls Tryd.prog 16 args W fun e W' => ∃ v, e = .returned v ∧ Rows.hierOnlySpec.post enc Tryd.prog Tryd.f16 false true false false W args v W' := by
  have hW' := hW
  obtain ⟨p, q, hA0, hV, rfl, hfz, hnd⟩ := hW
  have hA : DataW.TrodAll enc Tryd.prog W 0 (fun _ => true) true Tryd.f16.params.toList args.toList ds p := hA0
  rw [Tryd.params16] at hA hval
  rw [Tryd.params16] at hsz0
  obtain ⟨v0, vs0, d0, ds0, p0, q0, hargs, rfl, rfl, h0, r0⟩ := trodAll_cons hA
  obtain ⟨v1, vs1, d1, ds1, p1, q1, rfl, rfl, rfl, h1, r1⟩ := trodAll_cons r0
  obtain ⟨v2, vs2, d2, ds2, p2, q2, rfl, rfl, rfl, h2, r2⟩ := trodAll_cons r1
  obtain ⟨v3, vs3, d3, ds3, p3, q3, rfl, rfl, rfl, h3, r3⟩ := trodAll_cons r2
  obtain ⟨rfl, rfl, rfl⟩ := trodAll_nil r3
  obtain rfl : args = #[v0, v1, v2, v3] := by cases args; simp_all
  obtain ⟨rfl, rfl⟩ := trodVars_none hV
  have k0 := h0
  have lt0 : ∀ x ∈ p0, x.block < W.heap.size := by obtain ⟨m, hm⟩ := k0; exact DataW.trod_lt m _ _ _ hm
  obtain ⟨a0, rfl, _, _, w0⟩ := open_int Tryd.underlying3 (hval 0 3 v0 rfl rfl) h0
  have k1 := h1
  have lt1 : ∀ x ∈ p1, x.block < W.heap.size := by obtain ⟨m, hm⟩ := k1; exact DataW.trod_lt m _ _ _ hm
  obtain ⟨a1, rfl, _, _, w1⟩ := open_int Tryd.underlying3 (hval 1 3 v1 rfl rfl) h1
  have k2 := h2
  have lt2 : ∀ x ∈ p2, x.block < W.heap.size := by obtain ⟨m, hm⟩ := k2; exact DataW.trod_lt m _ _ _ hm
  obtain ⟨a2, rfl, _, _, w2⟩ := open_int Tryd.underlying3 (hval 2 3 v2 rfl rfl) h2
  have k3 := h3
  have lt3 : ∀ x ∈ p3, x.block < W.heap.size := by obtain ⟨m, hm⟩ := k3; exact DataW.trod_lt m _ _ _ hm
  obtain ⟨q_3, c3, a3, rfl, e3, o3, x3, y3⟩ := open_ops11v (hval 3 70 v3 rfl rfl) h3
  clear hA0
  have z3 : a3.length * 120 ≤ 140737488351232 := by
    rcases y3 with h | ⟨es, sp, hd, hl⟩
    · rw [h]; omega
    · have hb : Tryd.prog.bytesOf 79 = 120 := by kernel_rfl
      have := sized_slice hsz0 (j := 3) (t := 70) (e := 79) rfl (by rw [hd]; rfl) Tryd.underlying70
      rw [hb] at this
      unfold reachBytes at this
      omega
  have hT := table hL
  refine (only_walk a0 a1 a2 q_3 c3 a3 o3 z3 W hT e3).mono fun e W' ⟨he, bel⟩ => ?_
  subst he
  exact ⟨_, rfl, _, _, _, [], _, [], hW', trodAll_mk1 (shut_bool Tryd.underlying4 _), (trodAll_cons_mk (Below.trod laidOut (by kernel_rfl) (of_decide_eq_true (by kernel_rfl)) k0 bel lt0) (trodAll_cons_mk (Below.trod laidOut (by kernel_rfl) (of_decide_eq_true (by kernel_rfl)) k1 bel lt1) (trodAll_cons_mk (Below.trod laidOut (by kernel_rfl) (of_decide_eq_true (by kernel_rfl)) k2 bel lt2) (trodAll_cons_mk (Below.trod laidOut (by kernel_rfl) (of_decide_eq_true (by kernel_rfl)) k3 bel lt3) trodAll_mk0)))), rfl, bel.frame _, fun h => by cases h⟩

/-- A world for the witness: the settled one, the table holding what its initialiser lays. -/
noncomputable def laidWorld (os : Os) : World :=
  { World.holding Tryd.prog os ⟨#[], #[], []⟩ with heap := (World.holding Tryd.prog os ⟨#[], #[], []⟩).heap.modify 0 fun
      | .cells _ t frozen => .cells #[.int .u64 0, .int .u64 12, .int .u64 16, .int .u64 20, .int .u64 24] t frozen
      | o => o }
theorem laid_met (os : Os) : laidMet Tryd.prog Rows.hierOnlyRow.laid ((laidWorld os).forCall (fun _ _ => 0) ⟨#[], #[.int .i64 0, .int .i64 0, .int .i64 0, .slice none 0 0], []⟩).memory :=
  laidMet_of_run' 8 (by kernel_rfl) (by kernel_rfl)
theorem reads (os : Os) {H : Type} (enc : TypeId × Value → H) : ∃ places, DataW.whole enc Tryd.prog ((laidWorld os).forCall (fun _ _ => 0) ⟨#[], #[.int .i64 0, .int .i64 0, .int .i64 0, .slice none 0 0], []⟩).memory Tryd.f16.params.toList Rows.hierOnlySpec.vars false (#[.int .i64 0, .int .i64 0, .int .i64 0, .slice none 0 0] : Array Value).toList 8 = some ([.lit (.int .i64 0), .lit (.int .i64 0), .lit (.int .i64 0), .nil], [], places) :=
  ⟨[], by kernel_rfl⟩
theorem lifted (os : Os) (started : os.Started) (H : Type) (enc : TypeId × Value → H) (F : Stop.Interp) :
    ReturnsInHanded {} Tryd.checked os 16 .any ((OpenSpec.ofChange Rows.hierOnlySpec).preRow enc Tryd.prog Tryd.f16 Rows.hierOnlyRow.domain false Rows.hierOnlyRow.laid) (((OpenSpec.ofChange Rows.hierOnlySpec).at F).post enc Tryd.prog Tryd.f16 false true false false) := by
  obtain ⟨places, hx⟩ := reads os enc
  refine returnsInHanded_of_row (C := Tryd.checked) (s := OpenSpec.ofChange Rows.hierOnlySpec) own started (by kernel_rfl) Tryd.func16
    (witness_row_at (enc := enc) (C := Tryd.checked) false (laidWorld os) #[.int .i64 0, .int .i64 0, .int .i64 0, .slice none 0 0] rfl (by kernel_rfl) (by kernel_rfl) (by kernel_rfl)
      (OpenSpec.preRow_of_cond 8 hx (by kernel_rfl) (fun k hk => by cases hk) (by kernel_rfl) (laid_met os))) ?_
  intro W base args ds gs before hval hW _ _ hsz hL _ _
  exact contract H enc W base args ds gs before hval hW hL hsz
theorem said : Rows.HierOnlySaid :=
  OpenClaim.holds_of_cond 16 Tryd.f16 rfl rfl rfl rfl rfl rfl rfl ⟨rfl, rfl, rfl, rfl, rfl⟩ rfl rfl rfl rfl rfl (by kernel_rfl) Tryd.func16 (by kernel_rfl)
    (of_decide_eq_true (by kernel_rfl)) (by unfold Func.isWrapper; first | (rw [if_pos (by decide +kernel)]; kernel_rfl) | (rw [if_neg (by decide +kernel)]; exact ⟨rfl, rfl⟩))
    (fun os started H enc _ F => by rw [OpenClaim.pre_eq_preRow]; exact lifted os started H enc F)
theorem plain (f : FuncId) (fn : Func) (hf : Tryd.pinned.checked.prog.funcNamed "atlas/atlaslaw11.HierOnly" = some f) (hfn : Tryd.pinned.checked.prog.funcs[f]? = some fn) :
    false = Tryd.pinned.checked.prog.looks [] ∧ ∀ (j : Nat) t, fn.params[j]? = some t → Tryd.pinned.checked.prog.wantsStandIn t = false := by
  obtain rfl : f = 16 := Option.some.inj ((show Tryd.prog.funcNamed "atlas/atlaslaw11.HierOnly" = some 16 by kernel_rfl).symm.trans hf) |>.symm
  obtain rfl : fn = Tryd.f16 := (Option.some.inj (Tryd.func16.symm.trans hfn)).symm
  refine ⟨by kernel_rfl, fun j t ht => ?_⟩
  rw [Tryd.params16] at ht
  have hm := Array.mem_of_getElem? ht
  simp only [List.mem_toArray, List.mem_cons, List.not_mem_nil, or_false] at hm
  rcases hm with rfl | rfl | rfl | rfl
  all_goals first | exact (show Tryd.prog.wantsStandIn _ = false by kernel_rfl)
theorem card : Rows.HierOnlyCardSaid :=
  Claim7.holds_tied_plain_at .later [] _ _ _ _ said (fun _ h => by cases h) (by kernel_rfl) (fun _ h => by cases h) hierOnly_row_tie rfl ⟨rfl, rfl⟩ (by kernel_rfl) rfl plain (by kernel_rfl)
#print axioms card
end Go.Proofs.YtngcpcgioophcaaDoor.hierOnly
