/- Plain words of layer 11: places that hold blocks of a list alone, none twice; what Find, Keep, Evict and Drop make of them. No program is walked here. Lists of blocks in memory; the laws' among, apart and without of layer 11, over every list and block. How an argument that is a slice of flat elements reads: each element's cells lie one behind the other; blocks, ints. Arguments of HierOrder: lists of blocks and of numbers as they read; two groups of three TLBs and a list that is kept beside them. Plain words of HierOrder: which block is taken, what has been asked for. The second loop of HierOrder: Find by Find on both groups of TLBs. The walk of the law HierOrder of layer 11. For all sizes, every script and every list of blocks the law HierOrder answers true, and its arguments read as they did. -/
import Derived.Test.YtngcpcgioophcaaDoorHier
import Derived.Test.YtngcpcgioophcaaDoorPlayO
import Derived.Test.YtngcpcgioophcaaDoorRead
import Derived.SizedLaws
import Derived.IntWalk
import Derived.Test.YtngcpcgioophcaaDoorTie
import Derived.Deep.DeepHandedRow
import Derived.ChangeOld
import Derived.Below
namespace Go.Proofs.YtngcpcgioophcaaDoor

def mt (va asid : Int) (s : Slot) : Bool := s.full && overB s.blk va asid
theorem lookF_gen (va asid : Int) : ∀ (xs : List Slot) (p : Blk × Nat), (xs.foldl (lookS va asid) p).2 = p.2 + (xs.filter (mt va asid)).length ∧ (xs.filter (mt va asid) = [] → (xs.foldl (lookS va asid) p).1 = p.1) ∧ (∀ s, xs.filter (mt va asid) = [s] → (xs.foldl (lookS va asid) p).1 = s.blk) := by
  intro xs
  induction xs with
  | nil => intro p; exact ⟨rfl, fun _ => rfl, fun s h => by cases h⟩
  | cons x xs ih =>
    intro p
    rw [List.foldl_cons]
    cases hm : mt va asid x
    · have e : lookS va asid p x = p := by unfold lookS; unfold mt at hm; rw [hm]; rfl
      rw [List.filter_cons_of_neg (by simp [hm]), e]
      exact ih p
    · have e : lookS va asid p x = (x.blk, p.2 + 1) := by unfold lookS; unfold mt at hm; rw [hm]; rfl
      rw [List.filter_cons_of_pos hm, e]
      obtain ⟨i1, i2, i3⟩ := ih (x.blk, p.2 + 1)
      refine ⟨by rw [i1]; simp only [List.length_cons]; omega, (fun h => by cases h), fun s h => ?_⟩
      obtain ⟨rfl, h2⟩ := List.cons.inj h
      exact i2 h2
theorem lookN_len (va asid : Int) (xs : List Slot) : lookN va asid xs = (xs.filter (mt va asid)).length := by
  have := (lookF_gen va asid xs (zblk, 0)).1
  unfold lookN lookF
  omega
theorem lookB_one (va asid : Int) (xs : List Slot) (h : lookN va asid xs = 1) : ∃ s ∈ xs, s.full = true ∧ overB s.blk va asid = true ∧ lookB va asid xs = s.blk := by
  have hl := lookN_len va asid xs
  rw [h] at hl
  obtain ⟨s, hs⟩ := List.length_eq_one_iff.1 hl.symm
  have hm : s ∈ xs.filter (mt va asid) := by rw [hs]; exact List.mem_singleton.2 rfl
  obtain ⟨h1, h2⟩ := List.mem_filter.1 hm
  unfold mt at h2
  rw [Bool.and_eq_true] at h2
  refine ⟨s, h1, h2.1, h2.2, ?_⟩
  unfold lookB
  unfold lookN at h
  rw [if_pos h]
  exact (lookF_gen va asid xs (zblk, 0)).2.2 s hs
theorem lookB_no1 (va asid : Int) (xs : List Slot) (h : lookN va asid xs ≠ 1) : lookB va asid xs = zblk := by
  unfold lookB; unfold lookN at h; rw [if_neg h]
/-- what is held is among these -/
def OnlyL (L : List Blk) (xs : List Slot) : Prop := ∀ s ∈ xs, s.full = true → s.blk ∈ L
def NoDbl (xs : List Slot) : Prop := ∀ b, (xs.filter (same b)).length ≤ 1
theorem filter_set {α : Type} (p : α → Bool) (s : α) : ∀ (xs : List α) (i : Nat), ((xs.set i s).filter p).length ≤ (xs.filter p).length + (if p s = true then 1 else 0) := by
  intro xs
  induction xs with
  | nil => intro i; simp
  | cons x xs ih =>
    intro i
    cases i with
    | zero =>
      simp only [List.set_cons_zero, List.filter_cons]
      cases p s <;> cases p x <;> simp
    | succ i =>
      simp only [List.set_cons_succ, List.filter_cons]
      have := ih i
      cases p x <;> simp <;> omega
theorem NoDbl.set_ {xs : List Slot} (h : NoDbl xs) (i : Nat) (s : Slot) (hs : ∀ b, same b s = true → (xs.filter (same b)).length = 0) : NoDbl (xs.set i s) := by
  intro b
  have h1 := filter_set (same b) s xs i
  have h2 := h b
  have h3 := hs b
  split at h1
  · rename_i hb; have := h3 hb; omega
  · omega
theorem zslot_no (b : Blk) : same b zslot = false := rfl
theorem NoDbl.empty {xs : List Slot} (h : NoDbl xs) (i : Nat) : NoDbl (xs.set i zslot) := h.set_ i zslot (fun b hb => by rw [zslot_no] at hb; cases hb)
theorem find_none {b : Blk} {xs : List Slot} (h : findB b xs = none) : (xs.filter (same b)).length = 0 := by
  unfold findB at h
  rw [List.findIdx?_eq_none_iff] at h
  rw [List.length_eq_zero_iff, List.filter_eq_nil_iff]
  intro s hs
  rw [h s hs]
  decide
theorem same_eq {b c : Blk} {f : Bool} (h : same b ⟨f, c⟩ = true) : c = b ∧ f = true := by
  unfold same at h
  rw [Bool.and_eq_true] at h
  exact ⟨(Blk.eqB_iff _ _).1 h.2, h.1⟩
theorem NoDbl.putRow {xs : List Slot} (h : NoDbl xs) (b : Blk) (p : Int) : NoDbl (putRow b xs p) := by
  unfold Go.Proofs.YtngcpcgioophcaaDoor.putRow
  split
  · exact h
  · rename_i hf
    refine h.set_ _ _ (fun c hc => ?_)
    rw [← (same_eq hc).1]
    exact find_none hf
theorem NoDbl.putAny {xs : List Slot} (h : NoDbl xs) (b : Blk) (p : Int) : NoDbl (putAny b xs p) := by
  unfold Go.Proofs.YtngcpcgioophcaaDoor.putAny; split
  · exact h.putRow b p
  · exact h
theorem NoDbl.takeRow {xs : List Slot} (h : NoDbl xs) (b : Blk) (va asid p : Int) : NoDbl (takeRow b va asid p xs) := by
  unfold Go.Proofs.YtngcpcgioophcaaDoor.takeRow; split
  · exact h.putAny b p
  · exact h
theorem OnlyL.mono {L M : List Blk} {xs : List Slot} (h : OnlyL L xs) (hs : ∀ b ∈ L, b ∈ M) : OnlyL M xs := fun s a b => hs _ (h s a b)
theorem OnlyL.set_ {L : List Blk} {xs : List Slot} (h : OnlyL L xs) (i : Nat) (s : Slot) (hs : s.full = true → s.blk ∈ L) : OnlyL L (xs.set i s) := by
  intro t ht hf
  rcases List.mem_or_eq_of_mem_set ht with h1 | h1
  · exact h t h1 hf
  · subst h1; exact hs hf
theorem OnlyL.putAny {L : List Blk} {xs : List Slot} (h : OnlyL L xs) (b : Blk) (hb : b ∈ L) (p : Int) : OnlyL L (putAny b xs p) := by
  unfold Go.Proofs.YtngcpcgioophcaaDoor.putAny; split
  · unfold Go.Proofs.YtngcpcgioophcaaDoor.putRow
    split
    · exact h
    · exact h.set_ _ _ (fun _ => hb)
  · exact h
theorem OnlyL.takeRow {L : List Blk} {xs : List Slot} (h : OnlyL L xs) (b : Blk) (hb : b ∈ L) (va asid p : Int) : OnlyL L (takeRow b va asid p xs) := by
  unfold Go.Proofs.YtngcpcgioophcaaDoor.takeRow; split
  · exact h.putAny b hb p
  · exact h
theorem OnlyL.dropRow {L : List Blk} {xs : List Slot} (h : OnlyL L xs) (d : Tlbi) : OnlyL (L.filter (fun b => !takesB d b)) (dropRow d xs) := by
  intro s hs hf
  obtain ⟨t, ht, rfl⟩ := List.mem_map.1 hs
  unfold drop1 at hf ⊢
  split at hf
  · cases hf
  · rename_i hh
    rw [if_neg hh]
    refine List.mem_filter.2 ⟨h t ht hf, ?_⟩
    unfold hit at hh
    rw [hf] at hh
    simpa using hh
theorem newRow_only (n : Nat) (L : List Blk) : OnlyL L (newRow n) := fun s hs hf => by rw [List.eq_of_mem_replicate hs] at hf; cases hf
theorem newRow_nodbl (n : Nat) : NoDbl (newRow n) := fun b => by
  have : (newRow n).filter (same b) = [] := List.filter_eq_nil_iff.2 (fun s hs => by rw [List.eq_of_mem_replicate hs, zslot_no]; decide)
  rw [this]; decide
def Only3 (L : List Blk) (xs : Nat → List Slot) : Prop := ∀ k, 1 ≤ k → k ≤ 3 → OnlyL L (xs k)
def Nod3 (xs : Nat → List Slot) : Prop := ∀ k, 1 ≤ k → k ≤ 3 → NoDbl (xs k)
theorem Only3.upd {L : List Blk} {xs : Nat → List Slot} (h : Only3 L xs) (k : Nat) {ys : List Slot} (hy : OnlyL L ys) : Only3 L (upd xs k ys) := fun j a b => by
  by_cases e : j = k
  · subst e; rw [upd_at]; exact hy
  · rw [upd_ne _ _ _ _ e]; exact h j a b
theorem Nod3.upd {xs : Nat → List Slot} (h : Nod3 xs) (k : Nat) {ys : List Slot} (hy : NoDbl ys) : Nod3 (upd xs k ys) := fun j a b => by
  by_cases e : j = k
  · subst e; rw [upd_at]; exact hy
  · rw [upd_ne _ _ _ _ e]; exact h j a b
theorem Only3.mono {L M : List Blk} {xs : Nat → List Slot} (h : Only3 L xs) (hs : ∀ b ∈ L, b ∈ M) : Only3 M xs := fun k a b => (h k a b).mono hs
theorem keepR_only {L : List Blk} {xs : Nat → List Slot} (h : Only3 L xs) (b : Blk) (hb : b ∈ L) (va asid : Int) (f : Bool) (p : Int) : Only3 L (keepR xs b va asid f p) := by
  obtain ⟨s1, s3, _⟩ := sm_le f
  unfold keepR; split
  · exact (h.upd _ ((h 3 (by omega) (by omega)).takeRow b hb _ _ _)).upd _ ((h _ s1 s3).takeRow b hb _ _ _)
  · exact h
theorem keepR_nod {xs : Nat → List Slot} (h : Nod3 xs) (b : Blk) (va asid : Int) (f : Bool) (p : Int) : Nod3 (keepR xs b va asid f p) := by
  obtain ⟨s1, s3, _⟩ := sm_le f
  unfold keepR; split
  · exact (h.upd _ ((h 3 (by omega) (by omega)).takeRow b _ _ _)).upd _ ((h _ s1 s3).takeRow b _ _ _)
  · exact h
theorem findR_only {L : List Blk} {xs : Nat → List Slot} (h : Only3 L xs) (va asid : Int) (f : Bool) (p : Int) (mf : Bool) : Only3 L (findR xs va asid f p mf).2.2 := by
  obtain ⟨s1, s3, _⟩ := sm_le f
  unfold findR
  split
  · dsimp only
    split
    · rename_i hh
      obtain ⟨s, hs, hf, _, hb⟩ := lookB_one _ _ _ hh.1
      refine h.upd _ ((h _ s1 s3).putAny _ ?_ _)
      rw [hb]; exact h 3 (by omega) (by omega) s hs hf
    · exact h
  · exact h
theorem findR_nod {xs : Nat → List Slot} (h : Nod3 xs) (va asid : Int) (f : Bool) (p : Int) (mf : Bool) : Nod3 (findR xs va asid f p mf).2.2 := by
  obtain ⟨s1, s3, _⟩ := sm_le f
  unfold findR
  split
  · dsimp only
    split
    · exact h.upd _ ((h _ s1 s3).putAny _ _)
    · exact h
  · exact h
theorem many_one (n : Nat) : (many n = 1 ↔ n = 1) ∧ many n ≤ 2 := by unfold many; split <;> omega
/-- what Find answers -/
theorem findR_one {L : List Blk} {xs : Nat → List Slot} (h : Only3 L xs) (va asid : Int) (f : Bool) (p : Int) (mf : Bool) (h1 : (findR xs va asid f p mf).2.1 = 1) : (findR xs va asid f p mf).1 ∈ L ∧ overB (findR xs va asid f p mf).1 va asid = true := by
  obtain ⟨s1, s3, _⟩ := sm_le f
  unfold findR at h1 ⊢
  split at h1
  · rename_i hc
    rw [if_pos hc]
    obtain ⟨s, hs, hf, ho, hb⟩ := lookB_one _ _ _ ((many_one _).1.1 h1)
    dsimp only
    rw [hb]
    exact ⟨h 3 (by omega) (by omega) s hs hf, ho⟩
  · rename_i hc
    rw [if_neg hc]
    obtain ⟨s, hs, hf, ho, hb⟩ := lookB_one _ _ _ ((many_one _).1.1 h1)
    dsimp only
    rw [hb]
    exact ⟨h _ s1 s3 s hs hf, ho⟩
theorem findR_not (xs : Nat → List Slot) (va asid : Int) (f : Bool) (p : Int) (mf : Bool) (h1 : (findR xs va asid f p mf).2.1 ≠ 1) : (findR xs va asid f p mf).1 = zblk := by
  unfold findR at h1 ⊢
  split at h1
  · rename_i hc
    rw [if_pos hc]
    exact lookB_no1 _ _ _ (fun c => h1 ((many_one _).1.2 c))
  · rename_i hc
    rw [if_neg hc]
    exact lookB_no1 _ _ _ (fun c => h1 ((many_one _).1.2 c))
theorem findR_le2 (xs : Nat → List Slot) (va asid : Int) (f : Bool) (p : Int) (mf : Bool) : (findR xs va asid f p mf).2.1 ≤ 2 := by
  unfold findR
  split <;> exact (many_one _).2
/-- blocks that lie over no common address -/
def apartB (a b : Blk) : Bool := decide (a.va + bytesOf a.size ≤ b.va) || decide (b.va + bytesOf b.size ≤ a.va)
def Apart2 (L : List Blk) : Prop := ∀ b ∈ L, ∀ c ∈ L, b ≠ c → apartB b c = true
theorem over_covers {b : Blk} (hb : b.Ok) {va asid : Int} (v0 : 0 ≤ va) (v1 : va ≤ 4294967295) (h : overB b va asid = true) : b.va ≤ va ∧ va < b.va + bytesOf b.size := by
  unfold overB coversB at h
  simp only [Bool.and_eq_true, decide_eq_true_eq] at h
  have := hb.va0
  have := hb.va1
  obtain ⟨⟨_, h1, h2⟩, _⟩ := h
  rw [Int.emod_eq_of_lt (by omega) (by omega)] at h2
  omega
theorem apart_eq {L : List Blk} (hA : Apart2 L) (hok : ∀ b ∈ L, b.Ok) {b c : Blk} (hb : b ∈ L) (hc : c ∈ L) {va a1 a2 : Int} (v0 : 0 ≤ va) (v1 : va ≤ 4294967295) (h1 : overB b va a1 = true) (h2 : overB c va a2 = true) : b = c := by
  by_cases e : b = c
  · exact e
  · exfalso
    have x := over_covers (hok b hb) v0 v1 h1
    have y := over_covers (hok c hc) v0 v1 h2
    have z := hA b hb c hc e
    unfold apartB at z
    simp only [Bool.or_eq_true, decide_eq_true_eq] at z
    omega
theorem look_le1 {L : List Blk} (hA : Apart2 L) (hok : ∀ b ∈ L, b.Ok) {xs : List Slot} (ho : OnlyL L xs) (hn : NoDbl xs) {va asid : Int} (v0 : 0 ≤ va) (v1 : va ≤ 4294967295) : lookN va asid xs ≤ 1 := by
  rw [lookN_len]
  match hm : xs.filter (mt va asid) with
  | [] => simp
  | [s] => simp
  | a :: b :: r =>
    exfalso
    have ma : a ∈ xs.filter (mt va asid) := by rw [hm]; simp
    have mb : b ∈ xs.filter (mt va asid) := by rw [hm]; simp
    obtain ⟨a1, a2⟩ := List.mem_filter.1 ma
    obtain ⟨b1, b2⟩ := List.mem_filter.1 mb
    unfold mt at a2 b2
    rw [Bool.and_eq_true] at a2 b2
    have e := apart_eq hA hok (ho a a1 a2.1) (ho b b1 b2.1) v0 v1 a2.2 b2.2
    have sub : [a, b].Sublist xs := by
      have h1 : [a, b].Sublist (xs.filter (mt va asid)) := by rw [hm]; exact List.Sublist.cons_cons _ (List.Sublist.cons_cons _ (List.nil_sublist _))
      exact h1.trans List.filter_sublist
    have sub2 := sub.filter (same a.blk)
    have ea : same a.blk a = true := by unfold same; rw [a2.1, Blk.eqB_self]; rfl
    have eb : same a.blk b = true := by unfold same; rw [b2.1, e, Blk.eqB_self]; rfl
    have : [a, b].filter (same a.blk) = [a, b] := by simp [ea, eb]
    rw [this] at sub2
    have y1 := sub2.length_le
    have y2 := hn a.blk
    have y3 : [a, b].length = 2 := rfl
    omega
theorem findR_le1 {L : List Blk} (hA : Apart2 L) (hok : ∀ b ∈ L, b.Ok) {xs : Nat → List Slot} (ho : Only3 L xs) (hn : Nod3 xs) {va asid : Int} (v0 : 0 ≤ va) (v1 : va ≤ 4294967295) (f : Bool) (p : Int) (mf : Bool) : (findR xs va asid f p mf).2.1 ≤ 1 := by
  obtain ⟨s1, s3, _⟩ := sm_le f
  have m : ∀ n, n ≤ 1 → many n ≤ 1 := fun n h => by unfold many; split <;> omega
  unfold findR
  split
  · exact m _ (look_le1 hA hok (ho 3 (by omega) (by omega)) (hn 3 (by omega) (by omega)) v0 v1)
  · exact m _ (look_le1 hA hok (ho _ s1 s3) (hn _ s1 s3) v0 v1)
end Go.Proofs.YtngcpcgioophcaaDoor

namespace Go.Proofs.YtngcpcgioophcaaDoor
open Go.RowKit

def bkFlat (L : List Blk) : List Value := L.flatMap blkCells
theorem blkCells_len9 (b : Blk) : (blkCells b).length = 9 := rfl
theorem bkFlat_len (L : List Blk) : (bkFlat L).length = L.length * 9 := by
  induction L with
  | nil => rfl
  | cons x L ih => simp only [bkFlat, List.flatMap_cons, List.length_append, List.length_cons, blkCells_len9] at ih ⊢; omega
theorem bkFlat_at (L : List Blk) : ∀ (i j : Nat) (s : Blk), L[i]? = some s → j < 9 → (bkFlat L)[i * 9 + j]? = (blkCells s)[j]? := by
  induction L with
  | nil => intro i j s h; simp at h
  | cons x L ih =>
    intro i j s h hj
    simp only [bkFlat, List.flatMap_cons]
    cases i with
    | zero =>
      simp at h; subst h
      rw [List.getElem?_append_left (by rw [blkCells_len9]; omega)]; simp
    | succ i =>
      rw [List.getElem?_append_right (by rw [blkCells_len9]; omega), blkCells_len9]
      have e : (i + 1) * 9 + j - 9 = i * 9 + j := by omega
      rw [e]
      exact ih i j s (by simpa using h) hj
theorem bkFlat_snoc (L : List Blk) (b : Blk) : bkFlat (L ++ [b]) = bkFlat L ++ blkCells b := by simp [bkFlat]
theorem blk_info : (Tryd.prog.info? 29).map (fun i => (i.zero, i.size, i.bytes)) = some (some (.agg #[.int .i64 0, .int .i64 0, .int .u32 0, .int .u64 0, .int .i64 0, .int .i64 0, .int .u32 0, .bool false, .bool false]), 9, 56) := by kernel_rfl
/-- a slice that reads as a list of blocks -/
def BSl (w : World) (A : Option Addr) (L : List Blk) : Prop := ∀ i b, L[i]? = some b → ∃ g k0, A = some ⟨g, k0, none⟩ ∧ g < w.heap.size ∧ ∀ j v, (blkCells b)[j]? = some v → w.cell? ⟨g, k0 + i * 9 + j, none⟩ = some v
theorem BSl.below {w w' : World} {B : Nat} {A : Option Addr} {L : List Blk} (h : BSl w A L) (hB : ∀ g k0, A = some ⟨g, k0, none⟩ → g < B) (hb : Below B w w') : BSl w' A L := fun i b hi => by
  obtain ⟨g, k0, hA, hg, hc⟩ := h i b hi
  exact ⟨g, k0, hA, Nat.lt_of_lt_of_le hg hb.size, fun j v hv => (hb.cell (hB g k0 hA)).trans (hc j v hv)⟩
theorem BSl.belowN {w w' : World} {A : Option Addr} {L : List Blk} (h : BSl w A L) (hb : Below w.heap.size w w') : BSl w' A L := fun i b hi => by
  obtain ⟨g, k0, hA, hg, hc⟩ := h i b hi
  exact ⟨g, k0, hA, Nat.lt_of_lt_of_le hg hb.size, fun j v hv => (hb.cell hg).trans (hc j v hv)⟩
theorem BSl.nil (w : World) : BSl w none [] := fun i b h => by simp at h
/-- a slice that the call owns -/
def OwnB (w : World) (base : Nat) (v : Value) (L : List Blk) : Prop := w.ownsRow base 29 9 v L.length (bkFlat L)
theorem OwnB.nil (w : World) (base : Nat) : OwnB w base (.slice none 0 0) [] := ⟨rfl, .inl ⟨rfl, rfl⟩⟩
theorem OwnB.form {w : World} {base : Nat} {v : Value} {L : List Blk} (h : OwnB w base v L) : ∃ A cap, v = .slice A L.length cap ∧ BSl w A L ∧ (∀ g k0, A = some ⟨g, k0, none⟩ → base ≤ g) ∧ L.length ≤ cap ∧ (∀ a, A = some a → ∃ g, a = ⟨g, 0, none⟩ ∧ g < w.heap.size) := by
  obtain ⟨hl, h⟩ := h
  rcases h with ⟨rfl, h0⟩ | ⟨g, cap, cur, rfl, hbg, hg, hc, _, hcs, ht⟩
  · obtain rfl : L = [] := List.eq_nil_of_length_eq_zero h0
    exact ⟨none, 0, rfl, BSl.nil w, (fun _ _ h => by cases h), Nat.le_refl _, (fun _ h => by cases h)⟩
  · have hlt : g < w.heap.size := by
      rcases Nat.lt_or_ge g w.heap.size with hlt | hge
      · exact hlt
      · rw [Array.getElem?_eq_none hge] at hg; cases hg
    refine ⟨some ⟨g, 0, none⟩, cap, rfl, fun i b hi => ⟨g, 0, rfl, hlt, fun j v hv => ?_⟩, fun g' k' e => by cases e; exact hbg, hc, fun a e => by cases e; exact ⟨g, rfl, hlt⟩⟩
    have hj : j < 9 := by have := (List.getElem?_eq_some_iff.1 hv).1; rwa [blkCells_len9] at this
    have e := bkFlat_at L i j b hi hj
    rw [hv, ← ht, List.getElem?_take] at e
    rw [Nat.zero_add, cell_of_row w g _ cur _ _ hg]
    split at e
    · simpa using e
    · cases e
theorem OwnB.keep {w w' : World} {base : Nat} {v : Value} {L : List Blk} (h : OwnB w base v L) (hk : ∀ g, v.ownBlock = some g → g < w.heap.size → w'.heap[g]? = w.heap[g]?) : OwnB w' base v L := by
  obtain ⟨hl, h⟩ := h
  refine ⟨hl, ?_⟩
  rcases h with h | ⟨g, cap, cur, rfl, hbg, hg, hr⟩
  · exact .inl h
  · have hlt : g < w.heap.size := by
      rcases Nat.lt_or_ge g w.heap.size with hlt | hge
      · exact hlt
      · rw [Array.getElem?_eq_none hge] at hg; cases hg
    exact .inr ⟨g, cap, cur, rfl, hbg, (hk g rfl hlt).trans hg, hr⟩
theorem OwnB.belowN {w w' : World} {base : Nat} {v : Value} {L : List Blk} (h : OwnB w base v L) (hb : Below w.heap.size w w') : OwnB w' base v L := h.keep (fun g _ hg => hb.block g hg)
theorem OwnB.alloc {w : World} {base : Nat} {v : Value} {L : List Blk} (h : OwnB w base v L) (o : Obj) : OwnB (w.alloc o) base v L := h.belowN ((Below.refl _ _).alloc (Nat.le_refl _) o)
theorem OwnB.drewN {w : World} {base : Nat} {v : Value} {L : List Blk} (h : OwnB w base v L) (n : Nat) : OwnB (w.drewN n) base v L := h.belowN (bdrewN (Below.refl _ _) n)
theorem OwnB.block {w : World} {base g : Nat} {v : Value} {L : List Blk} (h : OwnB w base v L) (hv : v.ownBlock = some g) : base ≤ g ∧ g < w.heap.size := by
  obtain ⟨A, cap, rfl, _, hb, _, ha⟩ := h.form
  cases A with
  | none => cases hv
  | some a =>
    obtain ⟨g', rfl, hlt⟩ := ha a rfl
    simp only [Value.ownBlock, Option.some.injEq] at hv
    subst hv
    exact ⟨hb _ _ rfl, hlt⟩
theorem oneCell_blk (b : Blk) : ∀ v ∈ blkCells b, v.oneCell' = true := fun v hs => by
  simp only [blkCells, List.mem_cons, List.not_mem_nil, or_false] at hs
  rcases hs with rfl | rfl | rfl | rfl | rfl | rfl | rfl | rfl | rfl <;> rfl
def amongB (L : List Blk) (b : Blk) : Bool := L.any (fun x => x.eqB b)
theorem amongB_mem {L : List Blk} {b : Blk} : amongB L b = true ↔ b ∈ L := by
  unfold amongB
  rw [List.any_eq_true]
  constructor
  · rintro ⟨x, hx, he⟩; rw [← (Blk.eqB_iff x b).1 he]; exact hx
  · intro h; exact ⟨b, h, Blk.eqB_self b⟩
theorem among_step (L : List Blk) (b x : Blk) (k : Nat) (h : L[k]? = some x) (hn : amongB (L.take k) b = false) (hx : x.eqB b = false) : amongB (L.take (k + 1)) b = false := by
  rw [take_snoc L k x h]; unfold amongB at *; rw [List.any_append, hn]; simp [hx]
set_option maxHeartbeats 1600000 in
set_option maxRecDepth 100000 in
theorem among_is (L : List Blk) (b : Blk) (A : Option Addr) (cap : Nat) (hl : L.length < 9223372036854775808) (w : World) (h : BSl w A L) :
    Calls Tryd.prog 42 #[.slice A L.length cap, (.agg #[.int .i64 b.asid, .int .i64 b.size, .int .u32 b.va, .int .u64 b.pa, .int .i64 b.dom, .int .i64 b.ap, .int .u32 b.bits, .bool b.ng, .bool b.xn])] w fun e w' => e = .returned (.bool (amongB L b)) ∧ Below w.heap.size w w' := by
  have hX : Blok (w.alloc (.cells #[.int .i64 b.asid, .int .i64 b.size, .int .u32 b.va, .int .u64 b.pa, .int .i64 b.dom, .int .i64 b.ap, .int .u32 b.bits, .bool b.ng, .bool b.xn] 29)) w.heap.size 29 (blkCells b) := Blok.new w _ _
  have hB0 : Below w.heap.size w (w.alloc (.cells #[.int .i64 b.asid, .int .i64 b.size, .int .u32 b.va, .int .u64 b.pa, .int .i64 b.dom, .int .i64 b.ap, .int .u32 b.bits, .bool b.ng, .bool b.xn] 29)) := (Below.refl _ _).alloc (Nat.le_refl _) _
  have h0 := h.belowN hB0
  have HR := Lib.hid (amongB_mem (L := L) (b := b))
  have HZ := Lib.hid (show amongB (L.take 0) b = false from rfl)
  go_enter Tryd.func42, Tryd.ntmps42
  go_wp2_with fail
  go_loopw [5] (fun v5 wr => ∃ k : Nat, k ≤ L.length ∧ v5 = .int .i64 k ∧ amongB (L.take k) b = false ∧ BSl wr A L ∧ Blok wr w.heap.size 29 (blkCells b) ∧ Below w.heap.size w wr) (fun v5 _ => L.length - (intOf v5).toNat)
  case atStart => exact ⟨0, Nat.zero_le _, rfl, HZ.out, h0, hX, hB0⟩
  case round =>
    obtain ⟨k, hk, rfl, hn, hS, hXr, hB⟩ := hrel
    clear h0 hX hB0
    by_cases hlt : k < L.length
    · obtain ⟨x, hx⟩ : ∃ x, L[k]? = some x := ⟨_, List.getElem?_eq_getElem hlt⟩
      obtain ⟨g, k0, hA, hg, hc⟩ := hS k x hx
      subst hA
      have c0 : wr.cell? ⟨g, k0 + k * 9, none⟩ = some (.int .i64 x.asid) := hc 0 _ rfl
      have c1 := hc 1 _ rfl
      have c2 := hc 2 _ rfl
      have c3 := hc 3 _ rfl
      have c4 := hc 4 _ rfl
      have c5 := hc 5 _ rfl
      have c6 := hc 6 _ rfl
      have c7 := hc 7 _ rfl
      have c8 := hc 8 _ rfl
      (have d0 : (wr).cell? ⟨w.heap.size, 0, none⟩ = some (.int .i64 b.asid) := (hXr).cell 0; have d1 : (wr).cell? ⟨w.heap.size, 1, none⟩ = some (.int .i64 b.size) := (hXr).cell 1; have d2 : (wr).cell? ⟨w.heap.size, 2, none⟩ = some (.int .u32 b.va) := (hXr).cell 2; have d3 : (wr).cell? ⟨w.heap.size, 3, none⟩ = some (.int .u64 b.pa) := (hXr).cell 3; have d4 : (wr).cell? ⟨w.heap.size, 4, none⟩ = some (.int .i64 b.dom) := (hXr).cell 4; have d5 : (wr).cell? ⟨w.heap.size, 5, none⟩ = some (.int .i64 b.ap) := (hXr).cell 5; have d6 : (wr).cell? ⟨w.heap.size, 6, none⟩ = some (.int .u32 b.bits) := (hXr).cell 6; have d7 : (wr).cell? ⟨w.heap.size, 7, none⟩ = some (.bool b.ng) := (hXr).cell 7; have d8 : (wr).cell? ⟨w.heap.size, 8, none⟩ = some (.bool b.xn) := (hXr).cell 8)
      have heq0 := fun W => eql_blk x b W
      have i0 : (0 : Int) ≤ ↑k := by omega
      have i1 : (↑k : Int) < ↑L.length := by omega
      have HN := Lib.hid hn
      have HX := Lib.hid hx
      clear hc hn hx
      cases hxb : x.eqB b
      · have HS := Lib.hid (among_step L b x k HX.out HN.out hxb)
        rw [hxb] at heq0
        clear hxb
        go_wp2_with fail
        go_quiet (fail)
        go_wp2
        go_roundw
        case rel => exact ⟨k + 1, by omega, by go_num, HS.out, hS.belowN (bdrewN (Below.refl _ _) _), hXr.drewN _, bdrewN hB _⟩
        case measure => simp [intOf]; omega
      · rw [hxb] at heq0
        have HT := Lib.hid (show amongB L b = true from by unfold amongB; rw [List.any_eq_true]; exact ⟨x, List.mem_of_getElem? HX.out, hxb⟩)
        clear hxb
        go_wp2_with fail
        go_quiet (fail)
        go_wp2
        go_ret
        exact ⟨by rw [HT.out]; rfl, bdrewN hB _⟩
    · have htk : L.take k = L := List.take_of_length_le (by omega)
      rw [htk] at hn
      have HN := Lib.hid hn
      clear hn htk
      go_wp2
      go_ret
      exact ⟨by rw [HN.out]; rfl, hB⟩
theorem bytesOf_le (s : Int) : 0 ≤ bytesOf s ∧ bytesOf s ≤ 16777216 := by unfold bytesOf; split; omega; split; omega; split; omega; split <;> omega
set_option maxHeartbeats 1600000 in
theorem apart_is (a b : Blk) (ha : a.Ok) (hb : b.Ok) (w : World) (hs : Shf w) :
    Calls Tryd.prog 39 #[(.agg #[.int .i64 a.asid, .int .i64 a.size, .int .u32 a.va, .int .u64 a.pa, .int .i64 a.dom, .int .i64 a.ap, .int .u32 a.bits, .bool a.ng, .bool a.xn]), (.agg #[.int .i64 b.asid, .int .i64 b.size, .int .u32 b.va, .int .u64 b.pa, .int .i64 b.dom, .int .i64 b.ap, .int .u32 b.bits, .bool b.ng, .bool b.xn])] w fun e w' => e = .returned (.bool (apartB a b)) ∧ Below w.heap.size w w' := by
  have DB : ∀ (s : Int) (W : World), Shf W → Calls Tryd.prog 66 #[.int .i64 s] W fun e w' => e = .returned (.int .u64 (bytesOf s)) ∧ ∃ n, w' = W.drewN n := fun s W hW => desc_Bytes_is s W hW
  have DB := Lib.hid DB
  have s0 := (hs.alloc (.cells #[.int .i64 a.asid, .int .i64 a.size, .int .u32 a.va, .int .u64 a.pa, .int .i64 a.dom, .int .i64 a.ap, .int .u32 a.bits, .bool a.ng, .bool a.xn] 29)).alloc (.cells #[.int .i64 b.asid, .int .i64 b.size, .int .u32 b.va, .int .u64 b.pa, .int .i64 b.dom, .int .i64 b.ap, .int .u32 b.bits, .bool b.ng, .bool b.xn] 29)
  have b0 : Below w.heap.size w ((w.alloc (.cells #[.int .i64 a.asid, .int .i64 a.size, .int .u32 a.va, .int .u64 a.pa, .int .i64 a.dom, .int .i64 a.ap, .int .u32 a.bits, .bool a.ng, .bool a.xn] 29)).alloc (.cells #[.int .i64 b.asid, .int .i64 b.size, .int .u32 b.va, .int .u64 b.pa, .int .i64 b.dom, .int .i64 b.ap, .int .u32 b.bits, .bool b.ng, .bool b.xn] 29)) := ((Below.refl _ _).alloc (Nat.le_refl _) _).alloc (by simp) _
  have ba := bytesOf_le a.size
  have bb := bytesOf_le b.size
  obtain ⟨ma, hma⟩ : ∃ m, bytesOf a.size = m := ⟨_, rfl⟩
  obtain ⟨mb, hmb⟩ : ∃ m, bytesOf b.size = m := ⟨_, rfl⟩
  have HA := Lib.hid hma
  have HB := Lib.hid hmb
  rw [hma] at ba
  rw [hmb] at bb
  have a0 := ha.va0
  have a1 := ha.va1
  have b0' := hb.va0
  have b1 := hb.va1
  obtain ⟨ba0, ba1⟩ := ba
  obtain ⟨bb0, bb1⟩ := bb
  clear hma hmb ha hb hs
  by_cases h1 : a.va + ma ≤ b.va
  · have hR := Lib.hid (show apartB a b = true by unfold apartB; rw [HA.out, HB.out]; simp [h1])
    go_enter Tryd.func39, Tryd.ntmps39
    go_wp2_with fail
    refine (DB.out _ _ s0).mono ?_
    rintro e w1 ⟨rfl, n, rfl⟩
    rw [HA.out]
    go_wp2_with fail
    go_ret
    exact ⟨by rw [hR.out]; first | rfl | (simp; omega), bdrewN b0 _⟩
  · by_cases h2 : b.va + mb ≤ a.va
    · have hR := Lib.hid (show apartB a b = true by unfold apartB; rw [HA.out, HB.out]; simp [h2])
      go_enter Tryd.func39, Tryd.ntmps39
      go_wp2_with fail
      refine (DB.out _ _ s0).mono ?_
      rintro e w1 ⟨rfl, n, rfl⟩
      rw [HA.out]
      go_wp2_with fail
      refine (DB.out _ _ (s0.drewN n)).mono ?_
      rintro e w1 ⟨rfl, n2, rfl⟩
      rw [HB.out]
      go_wp2_with fail
      go_ret
      exact ⟨by rw [hR.out]; first | rfl | (simp; omega), by first | exact bdrewN (bdrewN b0 _) _ | exact bdrewN b0 _⟩
    · have hR := Lib.hid (show apartB a b = false by unfold apartB; rw [HA.out, HB.out]; simp [h1, h2])
      go_enter Tryd.func39, Tryd.ntmps39
      go_wp2_with fail
      refine (DB.out _ _ s0).mono ?_
      rintro e w1 ⟨rfl, n, rfl⟩
      rw [HA.out]
      go_wp2_with fail
      refine (DB.out _ _ (s0.drewN n)).mono ?_
      rintro e w1 ⟨rfl, n2, rfl⟩
      rw [HB.out]
      go_wp2_with fail
      go_ret
      exact ⟨by rw [hR.out]; first | rfl | (simp; omega), by first | exact bdrewN (bdrewN b0 _) _ | exact bdrewN b0 _⟩
end Go.Proofs.YtngcpcgioophcaaDoor

namespace Go.Proofs.YtngcpcgioophcaaDoor
open Go.ChangeShapes Go.WideShapes Go.RowKit Go.Deep Flat

theorem choose_lt2 {α : Type} [Inhabited α] {n : Nat} {p : Nat → α → Prop} (h : ∀ i, i < n → ∃ o, p i o) : ∃ O : Nat → α, ∀ i, i < n → p i (O i) := by
  classical
  exact ⟨fun i => if hi : i < n then Classical.choose (h i hi) else default, fun i hi => by dsimp only; rw [dif_pos hi]; exact Classical.choose_spec (h i hi)⟩
section
set_option maxRecDepth 100000
variable {H : Type} {enc : TypeId × Value → H} {W : World} {spare : Nat → Bool} {held : Bool} {r : Reach} {b0 : Nat} {v : Value} {d : DataW H} {p : List MemPlace}
theorem open_rows {t e : TypeId} {K : List (Option IntKind)} (hu : Tryd.prog.underlying t = some (.slice e)) (hfl : flatT Tryd.prog 5 e = some K) (hC : Tryd.prog.cellsOf e = K.length) (hp : 0 < K.length)
    (hv : Value.okWide Tryd.prog W r b0 t v) (h : DataW.Trod enc Tryd.prog W 0 spare held t v d p) :
    ∃ (q : Option Addr) (len cap : Nat) (R : Nat → List Value), v = .slice q len cap ∧ len ≤ maxLen ∧ (len = 0 ∨ ∃ es sp, d = .slice es sp ∧ es.length = len) ∧
      ∀ i, i < len → fitsAll K (R i) ∧ ∃ g k0, q = some ⟨g, k0, none⟩ ∧ g < W.heap.size ∧ ∀ j u, (R i)[j]? = some u → W.cell? ⟨g, k0 + i * K.length + j, none⟩ = some u := by
  obtain ⟨q, len, cap, rfl⟩ := okWide_slice hu hv
  obtain ⟨fuel, hf⟩ := h
  rcases open_slice hu hf with ⟨hc, _⟩ | ⟨a, len', cap', m, n, D, Pl, hc, hb, hl, hm, hmm, hx, hall⟩
  · simp only [Value.cells, List.cons.injEq, Value.slice.injEq, and_true] at hc
    obtain ⟨rfl, rfl, rfl⟩ := hc
    exact ⟨none, 0, 0, fun _ => [], rfl, Nat.zero_le _, .inl rfl, fun i hi => by omega⟩
  · simp only [Value.cells, List.cons.injEq, Value.slice.injEq, and_true] at hc
    obtain ⟨rfl, rfl, rfl⟩ := hc
    have hlm : len ≤ m := by rw [hmm]; split <;> omega
    have hd : ∃ es sp, d = .slice es sp ∧ es.length = len := by
      obtain ⟨rfl, _⟩ := Prod.mk.inj hx
      exact ⟨_, _, rfl, by simp⟩
    by_cases h0 : len = 0
    · subst h0
      exact ⟨some a, 0, cap, fun _ => [], rfl, Nat.zero_le _, .inl rfl, fun i hi => by omega⟩
    have first : ∃ u, W.cell? a = some u := by
      obtain ⟨cs0, g1, g2⟩ := hall 0 (by omega)
      rw [hC] at g1
      obtain ⟨_, hlen0, hcell0⟩ := World.cells?_some g1
      have hq := hcell0 0 hp
      simp only [Nat.zero_mul, Addr.add, if_pos] at hq
      rw [List.getElem?_eq_getElem (by rw [hlen0]; exact hp)] at hq
      exact ⟨_, hq⟩
    have hsp : a.spot = none := by
      obtain ⟨u, hu'⟩ := first
      unfold World.cell? at hu'
      split at hu'
      · split at hu'
        · cases hu'
        · rename_i hh; simpa using hh
      · cases hu'
    obtain ⟨ab, ao, sp⟩ := a
    simp only at hsp
    subst hsp
    have hbl : ab < W.heap.size := by
      obtain ⟨u, hu'⟩ := first
      have := World.block_lt_of_cell? W _ hu'
      exact this
    have hadd : ∀ i j, ((⟨ab, ao, none⟩ : Addr).add (i * K.length)).add j = ⟨ab, ao + i * K.length + j, none⟩ := by
      intro i j
      unfold Addr.add
      by_cases e : i * K.length = 0 <;> by_cases f : j = 0 <;> simp [e, f]
    have each : ∀ i, i < len → ∃ R : List Value, fitsAll K R ∧ ∀ j u, R[j]? = some u → W.cell? ⟨ab, ao + i * K.length + j, none⟩ = some u := by
      intro i hi
      obtain ⟨cs', h1, h2⟩ := hall i (by omega)
      rw [hC] at h1
      obtain ⟨_, hlen, hcell⟩ := World.cells?_some h1
      refine ⟨cs', flatT_fits (P := Tryd.prog) 5 n e K _ _ hfl h2 hC, fun j u hj => ?_⟩
      have hjl : j < K.length := by have := (List.getElem?_eq_some_iff.1 hj).1; omega
      rw [← hadd]
      exact (hcell j hjl).trans hj
    obtain ⟨R, hR⟩ := choose_lt2 each
    exact ⟨some ⟨ab, ao, none⟩, len, cap, R, rfl, by omega, .inr hd, fun i hi => ⟨(hR i hi).1, ab, ao, rfl, hbl, (hR i hi).2⟩⟩
end
end Go.Proofs.YtngcpcgioophcaaDoor

namespace Go.Proofs.YtngcpcgioophcaaDoor
open Go.ChangeShapes Go.WideShapes Go.RowKit Go.Deep Flat

section
set_option maxRecDepth 100000
variable {H : Type} {enc : TypeId × Value → H} {W : World} {spare : Nat → Bool} {held : Bool} {r : Reach} {b0 : Nat} {v : Value} {d : DataW H} {p : List MemPlace}
instance : Inhabited Blk := ⟨zblk⟩
theorem cells_block : Tryd.prog.cellsOf 29 = blkK.length := by kernel_rfl
theorem open_blks (hv : Value.okWide Tryd.prog W r b0 71 v) (h : DataW.Trod enc Tryd.prog W 0 spare held 71 v d p) :
    ∃ (A : Option Addr) (cap : Nat) (L : List Blk), v = .slice A L.length cap ∧ BSl W A L ∧ (∀ b ∈ L, b.Ok) ∧ L.length ≤ maxLen ∧ (L.length = 0 ∨ ∃ es sp, d = .slice es sp ∧ es.length = L.length) := by
  obtain ⟨q, len, cap, R, rfl, hm, hd, hR⟩ := open_rows Tryd.underlying71 flat_blk cells_block (by decide) hv h
  have each : ∀ i, i < len → ∃ b : Blk, b.Ok ∧ R i = blkCells b := fun i hi => by
    obtain ⟨b, hb, ho⟩ := of_blkK (hR i hi).1
    exact ⟨b, ho, hb⟩
  obtain ⟨O, hO⟩ := choose_lt2 each
  have hlen : ((List.range len).map O).length = len := by simp
  refine ⟨q, cap, (List.range len).map O, by rw [hlen], ?_, ?_, by rw [hlen]; exact hm, by rw [hlen]; exact hd⟩
  · intro i b hi
    have hil : i < len := by have := (List.getElem?_eq_some_iff.1 hi).1; simpa using this
    have e : b = O i := by simpa [hil] using hi.symm
    subst e
    obtain ⟨_, g, k0, hq, hg, hc⟩ := hR i hil
    refine ⟨g, k0, hq, hg, fun j u hj => ?_⟩
    rw [← (hO i hil).2] at hj
    exact hc j u hj
  · intro b hb
    obtain ⟨i, hi, rfl⟩ := List.mem_map.1 hb
    exact (hO i (List.mem_range.1 hi)).1
theorem of_op11Kv {cs : List Value} (h : fitsAll op11K cs) : ∃ o : Op11, cs = op11Cells o ∧ o.Ok ∧ 0 ≤ o.va ∧ o.va ≤ 4294967295 := by
  have hl := fitsAll_len h
  match cs, hl with
  | [u0, u1, u2, u3, u4, u5, u6, v0, v1, v2, v3, v4, v5, v6, v7, v8, d0, d1, d2], _ =>
    obtain ⟨⟨m0, rfl, g0⟩, ⟨m1, rfl, g1⟩, ⟨m2, rfl, g2⟩, ⟨m3, rfl, g3⟩, ⟨m4, rfl, g4⟩, ⟨m5, rfl⟩, ⟨m6, rfl⟩, ⟨n0, rfl, h0⟩, ⟨n1, rfl, h1⟩, ⟨n2, rfl, h2⟩, ⟨n3, rfl, h3⟩, ⟨n4, rfl, h4⟩, ⟨n5, rfl, h5⟩, ⟨n6, rfl, h6⟩, ⟨n7, rfl⟩, ⟨n8, rfl⟩, ⟨e0, rfl, f0⟩, ⟨e1, rfl, f1⟩, ⟨e2, rfl, f2⟩, _⟩ := h
    exact ⟨⟨m0, m1, m2, m3, m4, m5, m6, ⟨n0, n1, n2, n3, n4, n5, n6, n7, n8⟩, ⟨e0, e1, e2⟩⟩, rfl, ⟨(bnd_i64 g2).1, (bnd_i64 g2).2, ⟨(bnd_i64 h0).1, (bnd_i64 h0).2, (bnd_i64 h1).1, (bnd_i64 h1).2, (bnd_u32 h2).1, (bnd_u32 h2).2, (bnd_u64 h3).1, (bnd_u64 h3).2, (bnd_i64 h4).1, (bnd_i64 h4).2, (bnd_i64 h5).1, (bnd_i64 h5).2, (bnd_u32 h6).1, (bnd_u32 h6).2⟩⟩, (bnd_u32 g4).1, (bnd_u32 g4).2⟩
theorem cells_op11' : Tryd.prog.cellsOf 79 = op11K.length := by kernel_rfl
theorem open_ops11v (hv : Value.okWide Tryd.prog W r b0 70 v) (h : DataW.Trod enc Tryd.prog W 0 spare held 70 v d p) :
    ∃ (q : Option Addr) (cap : Nat) (os : List Op11), v = .slice q os.length cap ∧ OpsIn11 W.heap.size W q os ∧ (∀ o ∈ os, o.Ok ∧ 0 ≤ o.va ∧ o.va ≤ 4294967295) ∧ os.length ≤ maxLen ∧ (os.length = 0 ∨ ∃ es sp, d = .slice es sp ∧ es.length = os.length) := by
  obtain ⟨q, len, cap, R, rfl, hm, hd, hR⟩ := open_rows Tryd.underlying70 flat_op11 cells_op11' (by decide) hv h
  have each : ∀ i, i < len → ∃ o : Op11, (o.Ok ∧ 0 ≤ o.va ∧ o.va ≤ 4294967295) ∧ R i = op11Cells o := fun i hi => by
    obtain ⟨b, hb, ho⟩ := of_op11Kv (hR i hi).1
    exact ⟨b, ho, hb⟩
  obtain ⟨O, hO⟩ := choose_lt2 each
  have hlen : ((List.range len).map O).length = len := by simp
  refine ⟨q, cap, (List.range len).map O, by rw [hlen], ?_, ?_, by rw [hlen]; exact hm, by rw [hlen]; exact hd⟩
  · intro i b hi
    have hil : i < len := by have := (List.getElem?_eq_some_iff.1 hi).1; simpa using this
    have e : b = O i := by simpa [hil] using hi.symm
    subst e
    obtain ⟨_, g, k0, hq, hg, hc⟩ := hR i hil
    refine ⟨g, k0, hq, hg, fun j u hj => ?_⟩
    rw [← (hO i hil).2] at hj
    exact hc j u hj
  · intro b hb
    obtain ⟨i, hi, rfl⟩ := List.mem_map.1 hb
    exact (hO i (List.mem_range.1 hi)).1
/-- a slice that reads as a list of numbers -/
def ISl (w : World) (A : Option Addr) (L : List Int) : Prop := ∀ i n, L[i]? = some n → ∃ g k0, A = some ⟨g, k0, none⟩ ∧ g < w.heap.size ∧ w.cell? ⟨g, k0 + i, none⟩ = some (.int .i64 n)
theorem flat_int : flatT Tryd.prog 5 3 = some [some .i64] := by kernel_rfl
theorem cells_int : Tryd.prog.cellsOf 3 = [some IntKind.i64].length := by kernel_rfl
theorem open_intl (hv : Value.okWide Tryd.prog W r b0 69 v) (h : DataW.Trod enc Tryd.prog W 0 spare held 69 v d p) :
    ∃ (A : Option Addr) (cap : Nat) (L : List Int), v = .slice A L.length cap ∧ ISl W A L ∧ (∀ n ∈ L, -9223372036854775808 ≤ n ∧ n ≤ 9223372036854775807) ∧ L.length ≤ maxLen := by
  obtain ⟨q, len, cap, R, rfl, hm, hd, hR⟩ := open_rows Tryd.underlying69 flat_int cells_int (by decide) hv h
  have each : ∀ i, i < len → ∃ n : Int, (-9223372036854775808 ≤ n ∧ n ≤ 9223372036854775807) ∧ R i = [.int .i64 n] := fun i hi => by
    have hf := (hR i hi).1
    have hl := fitsAll_len hf
    match hr : R i, hl with
    | [u], _ =>
      rw [hr] at hf
      obtain ⟨⟨n, rfl, hw⟩, _⟩ := hf
      exact ⟨n, ⟨(bnd_i64 hw).1, (bnd_i64 hw).2⟩, rfl⟩
  obtain ⟨O, hO⟩ := choose_lt2 each
  have hlen : ((List.range len).map O).length = len := by simp
  refine ⟨q, cap, (List.range len).map O, by rw [hlen], ?_, ?_, by rw [hlen]; exact hm⟩
  · intro i n hi
    have hil : i < len := by have := (List.getElem?_eq_some_iff.1 hi).1; simpa using this
    have e : n = O i := by simpa [hil] using hi.symm
    subst e
    obtain ⟨_, g, k0, hq, hg, hc⟩ := hR i hil
    rw [(hO i hil).2] at hc
    refine ⟨g, k0, hq, hg, ?_⟩
    have := hc 0 _ rfl
    simpa using this
  · intro n hn
    obtain ⟨i, hi, rfl⟩ := List.mem_map.1 hn
    exact (hO i (List.mem_range.1 hi)).1
end
/-- two groups of three TLBs and what is made behind them lie apart -/
structure OSep (B N M hA hB : Nat) (tA gA tB gB : Nat → Nat) : Prop where
  a : hA < N ∧ ∀ k, 1 ≤ k → k ≤ 3 → tA k < N ∧ gA k < N
  b : N ≤ hB ∧ ∀ k, 1 ≤ k → k ≤ 3 → N ≤ tB k ∧ N ≤ gB k
  m : hB < M ∧ ∀ k, 1 ≤ k → k ≤ 3 → tB k < M ∧ gB k < M
  n : N ≤ M
  l : ∀ k, 1 ≤ k → k ≤ 3 → B ≤ gA k
  lb : B ≤ N
structure OInv (w0 : World) (M hA hB : Nat) (tA gA tB gB : Nat → Nat) (wr : World) (v : Value) (OK : List Blk) (xa xb : Nat → List Slot) : Prop where
  own : OwnB wr M v OK
  ha : IsHier wr hA tA gA xa
  hb : IsHier wr hB tB gB xb
  oa : Ok3 xa
  ob : Ok3 xb
  la : Only3 OK xa
  lb : Only3 OK xb
  na : Nod3 xa
  nb : Nod3 xb
  ap : Apart2 OK
  ok : ∀ b ∈ OK, b.Ok
  shf : Shf wr
  bel : Below w0.heap.size w0 wr
  mle : M ≤ wr.heap.size
section
variable {w0 : World} {N M hA hB : Nat} {tA gA tB gB : Nat → Nat} {wr w' : World} {v : Value} {OK : List Blk} {xa xb : Nat → List Slot}
theorem OInv.below (h : OInv w0 M hA hB tA gA tB gB wr v OK xa xb) (hb : Below wr.heap.size wr w') : OInv w0 M hA hB tA gA tB gB w' v OK xa xb :=
  ⟨h.own.belowN hb, h.ha.below hb, h.hb.below hb, h.oa, h.ob, h.la, h.lb, h.na, h.nb, h.ap, h.ok, h.shf.below h.shf.pos hb, bthen h.bel hb, Nat.le_trans h.mle hb.size⟩
theorem OSep.notB (s : OSep w0.heap.size N M hA hB tA gA tB gB) {i : Nat} (hi : N ≤ i) : ¬ In3 gA i := fun ⟨k, a, c, e⟩ => by have := (s.a.2 k a c).2; omega
theorem OSep.notA (s : OSep w0.heap.size N M hA hB tA gA tB gB) {i : Nat} (hi : i < N) : ¬ In3 gB i := fun ⟨k, a, c, e⟩ => by have := (s.b.2 k a c).2; omega
theorem OSep.notM (s : OSep w0.heap.size N M hA hB tA gA tB gB) {i : Nat} (hi : M ≤ i) : ¬ In3 gB i := fun ⟨k, a, c, e⟩ => by have := (s.m.2 k a c).2; omega
theorem OInv.inA (h : OInv w0 M hA hB tA gA tB gB wr v OK xa xb) (s : OSep w0.heap.size N M hA hB tA gA tB gB) {ya : Nat → List Slot} (g : GrownS wr w' (In3 gA)) (hi : IsHier w' hA tA gA ya) (h1 : Ok3 ya) (h2 : Only3 OK ya) (h3 : Nod3 ya) : OInv w0 M hA hB tA gA tB gB w' v OK ya xb := by
  refine ⟨h.own.keep (fun b hb hlt => g.block b hlt (s.notB (Nat.le_trans s.n (h.own.block hb).1))), hi, ⟨h.hb.b.gs g (s.notB s.b.1), h.hb.th.gs g (fun k a c => s.notB (s.b.2 k a c).1) (fun k a c => s.notB (s.b.2 k a c).2), h.hb.ne⟩, h1, h.ob, h2, h.lb, h3, h.nb, h.ap, h.ok, h.shf.gs g ?_, h.bel.trans (g.bel h.bel.size ?_), Nat.le_trans h.mle g.size⟩
  · exact h.ha.th.zero
  · rintro i ⟨k, a, c, rfl⟩; exact s.l k a c
theorem OInv.inB (h : OInv w0 M hA hB tA gA tB gB wr v OK xa xb) (s : OSep w0.heap.size N M hA hB tA gA tB gB) {yb : Nat → List Slot} (g : GrownS wr w' (In3 gB)) (hi : IsHier w' hB tB gB yb) (h1 : Ok3 yb) (h2 : Only3 OK yb) (h3 : Nod3 yb) : OInv w0 M hA hB tA gA tB gB w' v OK xa yb := by
  refine ⟨h.own.keep (fun b hb hlt => g.block b hlt (s.notM (h.own.block hb).1)), ⟨h.ha.b.gs g (s.notA s.a.1), h.ha.th.gs g (fun k a c => s.notA (s.a.2 k a c).1) (fun k a c => s.notA (s.a.2 k a c).2), h.ha.ne⟩, hi, h.oa, h1, h.la, h2, h.na, h3, h.ap, h.ok, h.shf.gs g ?_, h.bel.trans (g.bel h.bel.size ?_), Nat.le_trans h.mle g.size⟩
  · exact h.hb.th.zero
  · rintro i ⟨k, a, c, rfl⟩; have := (s.b.2 k a c).2; have := s.lb; omega
theorem OInv.app (h : OInv w0 M hA hB tA gA tB gB wr v OK xa xb) (s : OSep w0.heap.size N M hA hB tA gA tB gB) {v' : Value} {x : Blk} (g : wr.grownBy w' v.ownBlock) (ho : OwnB w' M v' (OK ++ [x])) (hx : x.Ok) (hap : OK.all (fun y => apartB y x) = true) : OInv w0 M hA hB tA gA tB gB w' v' (OK ++ [x]) xa xb := by
  have far : ∀ i, i < M → some i ≠ v.ownBlock := fun i hi e => by have := (h.own.block e.symm).1; omega
  have keep : ∀ {b : Nat} {t : TypeId} {cs : List Value}, b < M → Blok wr b t cs → Blok w' b t cs := fun hb hk => hk.grown g (far _ hb)
  have hz : ∀ k, 1 ≤ k → k ≤ 3 → tA k < M ∧ gA k < M := fun k a c => by have := s.a.2 k a c; have := s.n; omega
  have memL : ∀ b, b ∈ OK → b ∈ OK ++ [x] := fun b hb => List.mem_append_left _ hb
  refine ⟨ho, ⟨keep (by have := s.a.1; have := s.n; omega) h.ha.b, ⟨fun k a c => ?_, h.ha.th.inj, h.ha.th.far, h.ha.th.gz⟩, h.ha.ne⟩, ⟨keep s.m.1 h.hb.b, ⟨fun k a c => ?_, h.hb.th.inj, h.hb.th.far, h.hb.th.gz⟩, h.hb.ne⟩, h.oa, h.ob, h.la.mono memL, h.lb.mono memL, h.na, h.nb, ?_, ?_, ?_, ?_, Nat.le_trans h.mle g.size⟩
  · have t := h.ha.th.t k a c
    exact ⟨keep (hz k a c).1 t.hd, keep (hz k a c).2 t.sl, t.ne, t.pos, t.le⟩
  · have t := h.hb.th.t k a c
    exact ⟨keep (s.m.2 k a c).1 t.hd, keep (s.m.2 k a c).2 t.sl, t.ne, t.pos, t.le⟩
  · have hall := List.all_eq_true.1 hap
    intro b hb c hc hne
    rcases List.mem_append.1 hb with hb1 | hb1
    · rcases List.mem_append.1 hc with hc1 | hc1
      · exact h.ap b hb1 c hc1 hne
      · rw [List.mem_singleton.1 hc1]; exact hall b hb1
    · have e1 := List.mem_singleton.1 hb1
      rcases List.mem_append.1 hc with hc1 | hc1
      · have := hall c hc1
        rw [e1]
        unfold apartB at this ⊢
        rw [Bool.or_comm]; exact this
      · exact absurd (e1.trans (List.mem_singleton.1 hc1).symm) hne
  · intro b hb
    rcases List.mem_append.1 hb with hb1 | hb1
    · exact h.ok b hb1
    · rw [List.mem_singleton.1 hb1]; exact hx
  · exact h.shf.grown g (fun e => by have := h.own.block e; have := s.m.1; omega)
  · refine ⟨g.os.trans h.bel.os, g.tape.trans h.bel.tape, g.output.trans h.bel.output, Nat.le_trans h.bel.size g.size, fun i hi => ?_⟩
    exact (g.block i (Nat.lt_of_lt_of_le hi h.bel.size) (far i (by have := s.lb; have := s.n; omega))).trans (h.bel.block i hi)
end
end Go.Proofs.YtngcpcgioophcaaDoor

namespace Go.Proofs.YtngcpcgioophcaaDoor
open Go.RowKit

theorem tmod64 (z : Int) : -64 < z.tmod 64 ∧ z.tmod 64 < 64 := by
  have h1 := Int.tmod_lt_of_pos z (show (0 : Int) < 64 by omega)
  have h2 := Int.lt_tmod_of_pos z (show (0 : Int) < 64 by omega)
  omega
theorem overB_own (b : Blk) (hr : rightB b = true) : overB b b.va (bits .and .i64 b.asid 255) = true := by
  have hcov : coversB b.va b.size b.va = true := by
    unfold rightB at hr
    have ht : transB b = true := by
      split at hr <;> simp only [Bool.and_eq_true] at hr
      · exact hr.1.1
      · exact hr.1
    unfold transB sizedB at ht
    simp only [Bool.and_eq_true, decide_eq_true_eq] at ht
    unfold coversB bytesOf
    simp
    have h1 := ht.1.1.1.1
    obtain h | h | h | h : b.size = 1 ∨ b.size = 2 ∨ b.size = 3 ∨ b.size = 4 := by omega
    all_goals simp [h]
  have hasid : b.asid = bits .and .i64 b.asid 255 ∨ b.asid = -1 := by
    unfold rightB at hr
    split at hr
    · simp only [Bool.and_eq_true, decide_eq_true_eq] at hr
      left
      obtain ⟨n, hn⟩ := Int.eq_ofNat_of_zero_le hr.1.2
      have hn2 : n ≤ 255 := by omega
      rw [hn]
      have : ∀ m : Nat, m ≤ 255 → ((m : Nat) : Int) = bits .and .i64 (m : Int) 255 := by decide +kernel
      exact this n hn2
    · simp only [Bool.and_eq_true, decide_eq_true_eq] at hr
      exact .inr hr.2
  unfold overB
  rw [hr, hcov]
  simp only [Bool.and_eq_true, Bool.or_eq_true, decide_eq_true_eq, true_and]
  exact hasid
theorem rows3_only (n1 n2 n3 : Nat) (L : List Blk) : Only3 L (rows3 n1 n2 n3) := fun k _ _ => by unfold rows3 sel3; split; exact newRow_only _ _; split; exact newRow_only _ _; exact newRow_only _ _
theorem rows3_nod (n1 n2 n3 : Nat) : Nod3 (rows3 n1 n2 n3) := fun k _ _ => by unfold rows3 sel3; split; exact newRow_nodbl _; split; exact newRow_nodbl _; exact newRow_nodbl _
/-- the sizes while they are laid -/
def SzOk (S : List Int) : Prop := S.length = 3 ∧ ∀ x ∈ S, 1 ≤ x ∧ x ≤ 64
theorem SzOk.set_ {S : List Int} (h : SzOk S) (k : Nat) (x : Int) (h1 : 1 ≤ x) (h2 : x ≤ 64) : SzOk (S.set k x) := by
  refine ⟨by simp [h.1], fun y hy => ?_⟩
  rcases List.mem_or_eq_of_mem_set hy with hy | hy
  · exact h.2 y hy
  · omega
def goodTo (x : Blk) (OK : List Blk) (j : Nat) : Bool := rightB x && (OK.take j).all (fun y => apartB y x)
theorem goodTo_zero (x : Blk) (OK : List Blk) : goodTo x OK 0 = rightB x := by simp [goodTo]
theorem goodTo_next (x : Blk) (OK : List Blk) (j : Nat) (y : Blk) (h : OK[j]? = some y) : goodTo x OK (j + 1) = (goodTo x OK j && apartB y x) := by
  unfold goodTo
  rw [take_snoc OK j y h, List.all_append]
  simp [Bool.and_assoc]
theorem goodTo_all (x : Blk) (OK : List Blk) (h : goodTo x OK OK.length = true) : rightB x = true ∧ OK.all (fun y => apartB y x) = true := by
  unfold goodTo at h
  rw [List.take_length, Bool.and_eq_true] at h
  exact h
theorem own_snoc {w : World} {M : Nat} {v : Value} {OK : List Blk} {x : Blk} (h : w.ownsRow M 29 9 v (OK.length + 1) (bkFlat OK ++ blkCells x)) : OwnB w M v (OK ++ [x]) := by
  unfold OwnB
  rw [bkFlat_snoc, List.length_append]
  exact h
theorem keepR_ok3 {xs : Nat → List Slot} (h : Ok3 xs) {b : Blk} (hb : b.Ok) (va asid : Int) (f : Bool) (p : Int) : Ok3 (keepR xs b va asid f p) := by
  unfold keepR
  obtain ⟨s1, s3, _⟩ := sm_le f
  split
  · exact (h.upd (takeRow_ok _ hb _ _ _ _ (h 3 (by omega) (by omega)))).upd (takeRow_ok _ hb _ _ _ _ (h _ s1 s3))
  · exact h
/-- A STORE over the whole of a block. -/
theorem wpList_store_all {P : Program} {ops : Array Oper} {rest : List Oper} {op : Oper} {a : Act} {w : World} {Q : Exit → Act → World → Prop} (hgd : op.guard = none) (ty : TypeId) (x y : Operand) (ho : op.op = .store ty x y)
    (g : Nat) (vs : Array Value) (hx : a.eval x = .pointer (some ⟨g, 0, none⟩)) (hy : a.eval y = .agg vs) {t : TypeId} {cs : List Value} (hb : Blok w g t cs) (hl : vs.size = cs.length)
    (hi : (P.info? ty).map (·.size) = some vs.size) (h1 : vs.toList.all (·.oneCell') = true)
    (h : ∀ w1, Blok w1 g t vs.toList → w.grownBy w1 (some g) → w1.heap.size = w.heap.size → wpList P ops Q rest (a.put op.dst undef) w1) : wpList P ops Q (op :: rest) a w :=
  wpList_store_blok hgd ty x y ho g 0 vs hx hy hb (by omega) hi h1 (fun w1 b1 b2 b3 => h w1 (by simpa [hl] using b1) b2 b3)
theorem below_new {w w' : World} {o : Obj} (g : (w.alloc o).grownBy w' (some w.heap.size)) : Below w.heap.size w w' :=
  ⟨g.os, g.tape, g.output, Nat.le_trans (by simp) g.size, fun i hi => (g.block i (by simp; omega) (fun e => by have := Option.some.inj e; omega)).trans (Below.heap_alloc w o i hi)⟩
theorem IsHier.far1 {w w' : World} {hb r : Nat} {tb gb : Nat → Nat} {xs : Nat → List Slot} (h : IsHier w hb tb gb xs) (g : w.grownBy w' (some r)) (h1 : hb ≠ r) (h2 : ∀ k, 1 ≤ k → k ≤ 3 → tb k ≠ r ∧ gb k ≠ r) : IsHier w' hb tb gb xs :=
  ⟨h.b.grown g (by intro e; exact h1 (Option.some.inj e)), ⟨fun j a c => (h.th.t j a c).far' g (h2 j a c).1 (h2 j a c).2, h.th.inj, h.th.far, h.th.gz⟩, h.ne⟩
end Go.Proofs.YtngcpcgioophcaaDoor

namespace Go.Proofs.YtngcpcgioophcaaDoor
open Go.RowKit

def findBlock (n : Nat) : Code → Option Code
  | .block k c => if k = n then some c else findBlock n c
  | .seq a b => match findBlock n a with
    | some c => some c
    | none => findBlock n b
  | .loop c => findBlock n c
  | .cond _ a b => match findBlock n a with
    | some c => some c
    | none => findBlock n b
  | _ => none
noncomputable def ordLoop : Code := (Tryd.f9.body.bind (findBlock 6)).getD .skip
set_option maxHeartbeats 12800000 in
set_option maxRecDepth 100000 in
theorem order_loop (p : Option Addr) (cap : Nat) (os : List Op11) (w : World) (hos : Hid (∀ o ∈ os, o.Ok ∧ 0 ≤ o.va ∧ o.va ≤ 4294967295)) (hml : os.length < 9223372036854775808) (hO : OpsIn11 w.heap.size w p os) (N M hA hBb : Nat) (tA gA tB gB : Nat → Nat) (SEP : Hid (OSep w.heap.size N M hA hBb tA gA tB gB))
    (A3 : Option Addr) (cv3 : Nat) (OK : List Blk) (hokl : OK.length < 9223372036854775808) (xa xb : Nat → List Slot) (wr0 : World) (I : OInv w M hA hBb tA gA tB gB wr0 (.slice A3 OK.length cv3) OK xa xb)
    {u0 u2 u3 u4 u5 u6 u8 u9 u10 u12 u14 u15 u16 u17 u19 u20 u21 u22 u23 u24 u25 u26 u27 u28 u29 u30 u31 u32 u33 u34 u35 u36 u37 u38 u39 u40 u41 u42 u43 u44 u45 u46 u47 u48 u49 u50 u51 u52 u53 u54 u55 u56 u57 u58 u59 u60 u61 u62 u63 u64 u65 u66 u67 u68 u69 u70 u71 u72 u73 u74 u75 u76 u77 u78 u79 u80 u81 u82 u83 u84 u85 u86 u87 u88 u89 u90 u91 u92 u93 u94 u95 u96 u97 u98 u99 u100 u101 u102 u103 u104 u105 u106 u107 u108 u109 u110 u111 u112 u113 u114 u115 u116 u117 u118 u119 u120 u121 u122 u123 u124 u125 u126 u127 u128 u129 u130 u131 u132 u133 u134 u135 u136 u137 u138 u139 u140 u141 u142 u143 u144 u145 u146 u147 u148 u149 u150 u151 u152 u153 u154 u155 u156 u157 u158 u159 u160 u161 u162 u163 u164 u165 u166 u167 u168 u169 u170 u171 u172 u173 u174 u175 u176 u177 u178 u179 u180 u181 u182 u183 u184 u185 u186 u187 u188 u189 u190 u191 u192 u193 u194 u195 u196 u197 u198 u199 u200 u201 u202 u203 u204 u205 u206 u207 u208 u209 u210 u211 u212 u213 u214 u215 u216 u217 u218 u219 u220 u221 u222 u223 u224 u225 u226 u227 u228 u229 u230 u231 u232 u233 u234 u235 u236 : Value} {Q : Exit → Act → World → Prop}
    (hex : ∀ (u6 u18 u19 u20 u21 u22 u23 u155 u156 u157 u158 u159 u160 u161 u162 u163 u164 u165 u166 u167 u168 u169 u170 u171 u172 u173 u174 u175 u176 u177 u178 u179 u180 u181 u182 u183 u184 u185 u186 u187 u188 u189 u190 u191 u192 u193 u194 u195 u196 u197 u198 u199 u200 u201 u202 u203 u204 u205 u206 u207 u208 u209 u210 u211 u212 u213 u214 u215 u216 u217 u218 u219 u220 u221 u222 u223 u224 u225 u226 u227 u228 u229 u230 u231 u232 u233 u234 u235 u236 : Value) (w' : World), Below w.heap.size w w' → Q (.exit 6) ⟨#[u0, .slice p os.length cap, u2, u3, u4, u5, u6, .pointer (some ⟨hA, 0, none⟩), u8, u9, u10, .pointer (some ⟨hBb, 0, none⟩), u12, .slice A3 OK.length cv3, u14, u15, u16, u17, u18, u19, u20, u21, u22, u23, u24, u25, u26, u27, u28, u29, u30, u31, u32, u33, u34, u35, u36, u37, u38, u39, u40, u41, u42, u43, u44, u45, u46, u47, u48, u49, u50, u51, u52, u53, u54, u55, u56, u57, u58, u59, u60, u61, u62, u63, u64, u65, u66, u67, u68, u69, u70, u71, u72, u73, u74, u75, u76, u77, u78, u79, u80, u81, u82, u83, u84, u85, u86, u87, u88, u89, u90, u91, u92, u93, u94, u95, u96, u97, u98, u99, u100, u101, u102, u103, u104, u105, u106, u107, u108, u109, u110, u111, u112, u113, u114, u115, u116, u117, u118, u119, u120, u121, u122, u123, u124, u125, u126, u127, u128, u129, u130, u131, u132, u133, u134, u135, u136, u137, u138, u139, u140, u141, u142, u143, u144, u145, u146, u147, u148, u149, u150, u151, u152, u153, u154, u155, u156, u157, u158, u159, u160, u161, u162, u163, u164, u165, u166, u167, u168, u169, u170, u171, u172, u173, u174, u175, u176, u177, u178, u179, u180, u181, u182, u183, u184, u185, u186, u187, u188, u189, u190, u191, u192, u193, u194, u195, u196, u197, u198, u199, u200, u201, u202, u203, u204, u205, u206, u207, u208, u209, u210, u211, u212, u213, u214, u215, u216, u217, u218, u219, u220, u221, u222, u223, u224, u225, u226, u227, u228, u229, u230, u231, u232, u233, u234, u235, u236], []⟩ w') :
    Code.wp Tryd.prog ordLoop Q ⟨#[u0, .slice p os.length cap, u2, u3, u4, u5, u6, .pointer (some ⟨hA, 0, none⟩), u8, u9, u10, .pointer (some ⟨hBb, 0, none⟩), u12, .slice A3 OK.length cv3, u14, u15, u16, u17, .int .i64 0, u19, u20, u21, u22, u23, u24, u25, u26, u27, u28, u29, u30, u31, u32, u33, u34, u35, u36, u37, u38, u39, u40, u41, u42, u43, u44, u45, u46, u47, u48, u49, u50, u51, u52, u53, u54, u55, u56, u57, u58, u59, u60, u61, u62, u63, u64, u65, u66, u67, u68, u69, u70, u71, u72, u73, u74, u75, u76, u77, u78, u79, u80, u81, u82, u83, u84, u85, u86, u87, u88, u89, u90, u91, u92, u93, u94, u95, u96, u97, u98, u99, u100, u101, u102, u103, u104, u105, u106, u107, u108, u109, u110, u111, u112, u113, u114, u115, u116, u117, u118, u119, u120, u121, u122, u123, u124, u125, u126, u127, u128, u129, u130, u131, u132, u133, u134, u135, u136, u137, u138, u139, u140, u141, u142, u143, u144, u145, u146, u147, u148, u149, u150, u151, u152, u153, u154, u155, u156, u157, u158, u159, u160, u161, u162, u163, u164, u165, u166, u167, u168, u169, u170, u171, u172, u173, u174, u175, u176, u177, u178, u179, u180, u181, u182, u183, u184, u185, u186, u187, u188, u189, u190, u191, u192, u193, u194, u195, u196, u197, u198, u199, u200, u201, u202, u203, u204, u205, u206, u207, u208, u209, u210, u211, u212, u213, u214, u215, u216, u217, u218, u219, u220, u221, u222, u223, u224, u225, u226, u227, u228, u229, u230, u231, u232, u233, u234, u235, u236], []⟩ wr0 := by
  dsimp only at hex ⊢
  conv => arg 2; whnf
  go_loopw [18] (fun v18 wr => ∃ (k : Nat) (xa xb : Nat → List Slot), k ≤ os.length ∧ v18 = .int .i64 k ∧ OInv w M hA hBb tA gA tB gB wr (.slice A3 OK.length cv3) OK xa xb) (fun v18 _ => os.length - (intOf v18).toNat)
  case atStart => exact ⟨0, xa, xb, Nat.zero_le _, rfl, I⟩
  case round =>
    clear I
    obtain ⟨k2, xa, xb, hk2, rfl, I⟩ := hrel
    by_cases hlt : k2 < os.length
    · obtain ⟨o, hok⟩ : ∃ o, os[k2]? = some o := ⟨_, List.getElem?_eq_getElem hlt⟩
      obtain ⟨b, k0, hp, hbl, hc⟩ := hO k2 o hok
      subst hp
      have hrg : wr.rangeAt b (k0 + k2 * 19) [.int .i64 o.kind, .int .i64 o.asid, .int .i64 o.pick, .int .i64 o.which, .int .u32 o.va, .bool o.fetch, .bool o.mf, .int .i64 o.blk.asid, .int .i64 o.blk.size, .int .u32 o.blk.va, .int .u64 o.blk.pa, .int .i64 o.blk.dom, .int .i64 o.blk.ap, .int .u32 o.blk.bits, .bool o.blk.ng, .bool o.blk.xn, .int .i64 o.drop.kind, .int .u32 o.drop.va, .int .i64 o.drop.asid] := fun j v hv => (I.bel.cell hbl).trans (hc j v hv)
      have hoo := hos.out o (List.mem_of_getElem? hok)
      have X0 : Blok (wr.alloc (.cells #[.int .i64 0, .int .i64 0, .int .i64 0, .int .i64 0, .int .u32 0, .bool false, .bool false, .int .i64 0, .int .i64 0, .int .u32 0, .int .u64 0, .int .i64 0, .int .i64 0, .int .u32 0, .bool false, .bool false, .int .i64 0, .int .u32 0, .int .i64 0] 79)) wr.heap.size 79 (#[.int .i64 0, .int .i64 0, .int .i64 0, .int .i64 0, .int .u32 0, .bool false, .bool false, .int .i64 0, .int .i64 0, .int .u32 0, .int .u64 0, .int .i64 0, .int .i64 0, .int .u32 0, .bool false, .bool false, .int .i64 0, .int .u32 0, .int .i64 0] : Array Value).toList := Blok.new wr _ _
      obtain ⟨pk, hpk⟩ : ∃ pk, IntKind.i64.wrap (-o.pick) = pk := ⟨_, rfl⟩
      have pk0 : -9223372036854775808 ≤ pk ∧ pk ≤ 9223372036854775807 := by rw [← hpk, IntKind.wrap_i64]; omega
      have FA0 := fun W h1 h2 => hier_Find_is o.va o.asid o.fetch o.pick hoo.1.pick0 hoo.1.pick1 o.mf hA tA gA xa I.oa W h1 h2
      have FB0 := fun W h1 h2 => hier_Find_is o.va o.asid (!o.fetch) pk pk0.1 pk0.2 (!o.mf) hBb tB gB xb I.ob W h1 h2
      have m1 := findR_le1 I.ap I.ok I.la I.na hoo.2.1 hoo.2.2 o.fetch o.pick o.mf (asid := o.asid)
      have n1 := findR_le1 I.ap I.ok I.lb I.nb hoo.2.1 hoo.2.2 (!o.fetch) pk (!o.mf) (asid := o.asid)
      have m2 := findR_one I.la o.va o.asid o.fetch o.pick o.mf
      have n2 := findR_one I.lb o.va o.asid (!o.fetch) pk (!o.mf)
      have m3 := findR_ok xa I.oa o.va o.asid o.fetch o.pick o.mf
      have n3 := findR_ok xb I.ob o.va o.asid (!o.fetch) pk (!o.mf)
      have m4 := findR_only I.la o.va o.asid o.fetch o.pick o.mf
      have n4 := findR_only I.lb o.va o.asid (!o.fetch) pk (!o.mf)
      have m5 := findR_nod I.na o.va o.asid o.fetch o.pick o.mf
      have n5 := findR_nod I.nb o.va o.asid (!o.fetch) pk (!o.mf)
      unfold FindPost blkCells at FA0 FB0
      obtain ⟨fra, hfra⟩ : ∃ fra, findR xa o.va o.asid o.fetch o.pick o.mf = fra := ⟨_, rfl⟩
      obtain ⟨frb, hfrb⟩ : ∃ frb, findR xb o.va o.asid (!o.fetch) pk (!o.mf) = frb := ⟨_, rfl⟩
      rw [hfra] at FA0 m1 m2 m3 m4 m5
      rw [hfrb] at FB0 n1 n2 n3 n4 n5
      obtain ⟨pb, m, ya⟩ := fra
      obtain ⟨qb, n, yb⟩ := frb
      dsimp only at FA0 m1 m2 m3 m4 m5 FB0 n1 n2 n3 n4 n5
      have hpq : m = 1 → n = 1 → pb = qb := fun e1 e2 => apart_eq I.ap I.ok (m2 e1).1 (n2 e2).1 hoo.2.1 hoo.2.2 (m2 e1).2 (n2 e2).2
      have HPK := Lib.hid hpk
      have FA := Lib.hid FA0
      have FB := Lib.hid FB0
      have PQ := Lib.hid hpq
      have MM := Lib.hid (And.intro (fun e => (m2 e).1) (And.intro m3 (And.intro m4 m5)))
      have NN := Lib.hid (And.intro (fun e => (n2 e).1) (And.intro n3 (And.intro n4 n5)))
      have HRG := Lib.hid hrg
      clear FA0 FB0 hpq m2 m3 m4 m5 n2 n3 n4 n5 hfra hfrb hok hc hrg pk0 hpk
      go_wp2_with (first
        | (refine wpList_load_mid rfl 79 (.tmp 163) rfl b (k0 + k2 * 19) rfl [.int .i64 o.kind, .int .i64 o.asid, .int .i64 o.pick, .int .i64 o.which, .int .u32 o.va, .bool o.fetch, .bool o.mf, .int .i64 o.blk.asid, .int .i64 o.blk.size, .int .u32 o.blk.va, .int .u64 o.blk.pa, .int .i64 o.blk.dom, .int .i64 o.blk.ap, .int .u32 o.blk.bits, .bool o.blk.ng, .bool o.blk.xn, .int .i64 o.drop.kind, .int .u32 o.drop.va, .int .i64 o.drop.asid] _ HRG.out Tryd.underlying79 rfl (by kernel_rfl) ?_)
        | (refine wpList_store_all rfl _ (.tmp 19) (.tmp 164) rfl wr.heap.size #[.int .i64 o.kind, .int .i64 o.asid, .int .i64 o.pick, .int .i64 o.which, .int .u32 o.va, .bool o.fetch, .bool o.mf, .int .i64 o.blk.asid, .int .i64 o.blk.size, .int .u32 o.blk.va, .int .u64 o.blk.pa, .int .i64 o.blk.dom, .int .i64 o.blk.ap, .int .u32 o.blk.bits, .bool o.blk.ng, .bool o.blk.xn, .int .i64 o.drop.kind, .int .u32 o.drop.va, .int .i64 o.drop.asid] rfl rfl X0 rfl (by kernel_rfl) rfl ?_; intro w4 X1 hg4 hz4; have I1 := I.below (below_new hg4); (have c0 : (w4).cell? ⟨wr.heap.size, 0, none⟩ = some (.int .i64 o.kind) := (X1).cell 0; have c1 : (w4).cell? ⟨wr.heap.size, 1, none⟩ = some (.int .i64 o.asid) := (X1).cell 1; have c2 : (w4).cell? ⟨wr.heap.size, 2, none⟩ = some (.int .i64 o.pick) := (X1).cell 2; have c3 : (w4).cell? ⟨wr.heap.size, 3, none⟩ = some (.int .i64 o.which) := (X1).cell 3; have c4 : (w4).cell? ⟨wr.heap.size, 4, none⟩ = some (.int .u32 o.va) := (X1).cell 4; have c5 : (w4).cell? ⟨wr.heap.size, 5, none⟩ = some (.bool o.fetch) := (X1).cell 5; have c6 : (w4).cell? ⟨wr.heap.size, 6, none⟩ = some (.bool o.mf) := (X1).cell 6; have c7 : (w4).cell? ⟨wr.heap.size, 7, none⟩ = some (.int .i64 o.blk.asid) := (X1).cell 7; have c8 : (w4).cell? ⟨wr.heap.size, 8, none⟩ = some (.int .i64 o.blk.size) := (X1).cell 8; have c9 : (w4).cell? ⟨wr.heap.size, 9, none⟩ = some (.int .u32 o.blk.va) := (X1).cell 9; have c10 : (w4).cell? ⟨wr.heap.size, 10, none⟩ = some (.int .u64 o.blk.pa) := (X1).cell 10; have c11 : (w4).cell? ⟨wr.heap.size, 11, none⟩ = some (.int .i64 o.blk.dom) := (X1).cell 11; have c12 : (w4).cell? ⟨wr.heap.size, 12, none⟩ = some (.int .i64 o.blk.ap) := (X1).cell 12; have c13 : (w4).cell? ⟨wr.heap.size, 13, none⟩ = some (.int .u32 o.blk.bits) := (X1).cell 13; have c14 : (w4).cell? ⟨wr.heap.size, 14, none⟩ = some (.bool o.blk.ng) := (X1).cell 14; have c15 : (w4).cell? ⟨wr.heap.size, 15, none⟩ = some (.bool o.blk.xn) := (X1).cell 15; have c16 : (w4).cell? ⟨wr.heap.size, 16, none⟩ = some (.int .i64 o.drop.kind) := (X1).cell 16; have c17 : (w4).cell? ⟨wr.heap.size, 17, none⟩ = some (.int .u32 o.drop.va) := (X1).cell 17; have c18 : (w4).cell? ⟨wr.heap.size, 18, none⟩ = some (.int .i64 o.drop.asid) := (X1).cell 18)))
      refine (FA.out _ I1.shf I1.ha).mono ?_
      rintro e w5 ⟨rfl, hH5, hg5⟩
      have I5 := I1.inA SEP.out hg5 hH5 MM.out.2.1 MM.out.2.2.1 MM.out.2.2.2
      have nX : ¬ In3 gA wr.heap.size := fun ⟨kk, a1, a3, e⟩ => by have := (I.ha.th.t kk a1 a3).sl.lt; omega
      have nY : ¬ In3 gB wr.heap.size := fun ⟨kk, a1, a3, e⟩ => by have := (I.hb.th.t kk a1 a3).sl.lt; omega
      have X5 := X1.gs hg5 nX
      clear c0 c1 c2 c3 c4 c5 c6 c7 c8 c9 c10 c11 c12 c13 c14 c15 c16 c17 c18 X1 X0 I1 I
      have P5 : Blok (w5.alloc (.cells #[.int .i64 pb.asid, .int .i64 pb.size, .int .u32 pb.va, .int .u64 pb.pa, .int .i64 pb.dom, .int .i64 pb.ap, .int .u32 pb.bits, .bool pb.ng, .bool pb.xn] 29)) w5.heap.size 29 (blkCells pb) := Blok.new w5 _ _
      have I5a := I5.below ((Below.refl _ _).alloc (Nat.le_refl _) (.cells #[.int .i64 pb.asid, .int .i64 pb.size, .int .u32 pb.va, .int .u64 pb.pa, .int .i64 pb.dom, .int .i64 pb.ap, .int .u32 pb.bits, .bool pb.ng, .bool pb.xn] 29))
      have nP : ¬ In3 gB w5.heap.size := fun ⟨kk, a1, a3, e⟩ => by have := (I5.hb.th.t kk a1 a3).sl.lt; omega
      have X5a := X5.alloc (.cells #[.int .i64 pb.asid, .int .i64 pb.size, .int .u32 pb.va, .int .u64 pb.pa, .int .i64 pb.dom, .int .i64 pb.ap, .int .u32 pb.bits, .bool pb.ng, .bool pb.xn] 29)
      (have c0 : ((w5.alloc (.cells #[.int .i64 pb.asid, .int .i64 pb.size, .int .u32 pb.va, .int .u64 pb.pa, .int .i64 pb.dom, .int .i64 pb.ap, .int .u32 pb.bits, .bool pb.ng, .bool pb.xn] 29))).cell? ⟨wr.heap.size, 0, none⟩ = some (.int .i64 o.kind) := (X5a).cell 0; have c1 : ((w5.alloc (.cells #[.int .i64 pb.asid, .int .i64 pb.size, .int .u32 pb.va, .int .u64 pb.pa, .int .i64 pb.dom, .int .i64 pb.ap, .int .u32 pb.bits, .bool pb.ng, .bool pb.xn] 29))).cell? ⟨wr.heap.size, 1, none⟩ = some (.int .i64 o.asid) := (X5a).cell 1; have c2 : ((w5.alloc (.cells #[.int .i64 pb.asid, .int .i64 pb.size, .int .u32 pb.va, .int .u64 pb.pa, .int .i64 pb.dom, .int .i64 pb.ap, .int .u32 pb.bits, .bool pb.ng, .bool pb.xn] 29))).cell? ⟨wr.heap.size, 2, none⟩ = some (.int .i64 o.pick) := (X5a).cell 2; have c3 : ((w5.alloc (.cells #[.int .i64 pb.asid, .int .i64 pb.size, .int .u32 pb.va, .int .u64 pb.pa, .int .i64 pb.dom, .int .i64 pb.ap, .int .u32 pb.bits, .bool pb.ng, .bool pb.xn] 29))).cell? ⟨wr.heap.size, 3, none⟩ = some (.int .i64 o.which) := (X5a).cell 3; have c4 : ((w5.alloc (.cells #[.int .i64 pb.asid, .int .i64 pb.size, .int .u32 pb.va, .int .u64 pb.pa, .int .i64 pb.dom, .int .i64 pb.ap, .int .u32 pb.bits, .bool pb.ng, .bool pb.xn] 29))).cell? ⟨wr.heap.size, 4, none⟩ = some (.int .u32 o.va) := (X5a).cell 4; have c5 : ((w5.alloc (.cells #[.int .i64 pb.asid, .int .i64 pb.size, .int .u32 pb.va, .int .u64 pb.pa, .int .i64 pb.dom, .int .i64 pb.ap, .int .u32 pb.bits, .bool pb.ng, .bool pb.xn] 29))).cell? ⟨wr.heap.size, 5, none⟩ = some (.bool o.fetch) := (X5a).cell 5; have c6 : ((w5.alloc (.cells #[.int .i64 pb.asid, .int .i64 pb.size, .int .u32 pb.va, .int .u64 pb.pa, .int .i64 pb.dom, .int .i64 pb.ap, .int .u32 pb.bits, .bool pb.ng, .bool pb.xn] 29))).cell? ⟨wr.heap.size, 6, none⟩ = some (.bool o.mf) := (X5a).cell 6; have c7 : ((w5.alloc (.cells #[.int .i64 pb.asid, .int .i64 pb.size, .int .u32 pb.va, .int .u64 pb.pa, .int .i64 pb.dom, .int .i64 pb.ap, .int .u32 pb.bits, .bool pb.ng, .bool pb.xn] 29))).cell? ⟨wr.heap.size, 7, none⟩ = some (.int .i64 o.blk.asid) := (X5a).cell 7; have c8 : ((w5.alloc (.cells #[.int .i64 pb.asid, .int .i64 pb.size, .int .u32 pb.va, .int .u64 pb.pa, .int .i64 pb.dom, .int .i64 pb.ap, .int .u32 pb.bits, .bool pb.ng, .bool pb.xn] 29))).cell? ⟨wr.heap.size, 8, none⟩ = some (.int .i64 o.blk.size) := (X5a).cell 8; have c9 : ((w5.alloc (.cells #[.int .i64 pb.asid, .int .i64 pb.size, .int .u32 pb.va, .int .u64 pb.pa, .int .i64 pb.dom, .int .i64 pb.ap, .int .u32 pb.bits, .bool pb.ng, .bool pb.xn] 29))).cell? ⟨wr.heap.size, 9, none⟩ = some (.int .u32 o.blk.va) := (X5a).cell 9; have c10 : ((w5.alloc (.cells #[.int .i64 pb.asid, .int .i64 pb.size, .int .u32 pb.va, .int .u64 pb.pa, .int .i64 pb.dom, .int .i64 pb.ap, .int .u32 pb.bits, .bool pb.ng, .bool pb.xn] 29))).cell? ⟨wr.heap.size, 10, none⟩ = some (.int .u64 o.blk.pa) := (X5a).cell 10; have c11 : ((w5.alloc (.cells #[.int .i64 pb.asid, .int .i64 pb.size, .int .u32 pb.va, .int .u64 pb.pa, .int .i64 pb.dom, .int .i64 pb.ap, .int .u32 pb.bits, .bool pb.ng, .bool pb.xn] 29))).cell? ⟨wr.heap.size, 11, none⟩ = some (.int .i64 o.blk.dom) := (X5a).cell 11; have c12 : ((w5.alloc (.cells #[.int .i64 pb.asid, .int .i64 pb.size, .int .u32 pb.va, .int .u64 pb.pa, .int .i64 pb.dom, .int .i64 pb.ap, .int .u32 pb.bits, .bool pb.ng, .bool pb.xn] 29))).cell? ⟨wr.heap.size, 12, none⟩ = some (.int .i64 o.blk.ap) := (X5a).cell 12; have c13 : ((w5.alloc (.cells #[.int .i64 pb.asid, .int .i64 pb.size, .int .u32 pb.va, .int .u64 pb.pa, .int .i64 pb.dom, .int .i64 pb.ap, .int .u32 pb.bits, .bool pb.ng, .bool pb.xn] 29))).cell? ⟨wr.heap.size, 13, none⟩ = some (.int .u32 o.blk.bits) := (X5a).cell 13; have c14 : ((w5.alloc (.cells #[.int .i64 pb.asid, .int .i64 pb.size, .int .u32 pb.va, .int .u64 pb.pa, .int .i64 pb.dom, .int .i64 pb.ap, .int .u32 pb.bits, .bool pb.ng, .bool pb.xn] 29))).cell? ⟨wr.heap.size, 14, none⟩ = some (.bool o.blk.ng) := (X5a).cell 14; have c15 : ((w5.alloc (.cells #[.int .i64 pb.asid, .int .i64 pb.size, .int .u32 pb.va, .int .u64 pb.pa, .int .i64 pb.dom, .int .i64 pb.ap, .int .u32 pb.bits, .bool pb.ng, .bool pb.xn] 29))).cell? ⟨wr.heap.size, 15, none⟩ = some (.bool o.blk.xn) := (X5a).cell 15; have c16 : ((w5.alloc (.cells #[.int .i64 pb.asid, .int .i64 pb.size, .int .u32 pb.va, .int .u64 pb.pa, .int .i64 pb.dom, .int .i64 pb.ap, .int .u32 pb.bits, .bool pb.ng, .bool pb.xn] 29))).cell? ⟨wr.heap.size, 16, none⟩ = some (.int .i64 o.drop.kind) := (X5a).cell 16; have c17 : ((w5.alloc (.cells #[.int .i64 pb.asid, .int .i64 pb.size, .int .u32 pb.va, .int .u64 pb.pa, .int .i64 pb.dom, .int .i64 pb.ap, .int .u32 pb.bits, .bool pb.ng, .bool pb.xn] 29))).cell? ⟨wr.heap.size, 17, none⟩ = some (.int .u32 o.drop.va) := (X5a).cell 17; have c18 : ((w5.alloc (.cells #[.int .i64 pb.asid, .int .i64 pb.size, .int .u32 pb.va, .int .u64 pb.pa, .int .i64 pb.dom, .int .i64 pb.ap, .int .u32 pb.bits, .bool pb.ng, .bool pb.xn] 29))).cell? ⟨wr.heap.size, 18, none⟩ = some (.int .i64 o.drop.asid) := (X5a).cell 18)
      have hpk := HPK.out
      go_wp2_with fail
      refine (FB.out _ I5a.shf I5a.hb).mono ?_
      rintro e w6 ⟨rfl, hH6, hg6⟩
      clear c0 c1 c2 c3 c4 c5 c6 c7 c8 c9 c10 c11 c12 c13 c14 c15 c16 c17 c18 hpk
      have I6 := I5a.inB SEP.out hg6 hH6 NN.out.2.1 NN.out.2.2.1 NN.out.2.2.2
      have P6 := (P5.gs hg6 nP).alloc (.cells #[.int .i64 qb.asid, .int .i64 qb.size, .int .u32 qb.va, .int .u64 qb.pa, .int .i64 qb.dom, .int .i64 qb.ap, .int .u32 qb.bits, .bool qb.ng, .bool qb.xn] 29)
      have Q6 : Blok (w6.alloc (.cells #[.int .i64 qb.asid, .int .i64 qb.size, .int .u32 qb.va, .int .u64 qb.pa, .int .i64 qb.dom, .int .i64 qb.ap, .int .u32 qb.bits, .bool qb.ng, .bool qb.xn] 29)) w6.heap.size 29 (blkCells qb) := Blok.new w6 _ _
      have I6a := I6.below ((Below.refl _ _).alloc (Nat.le_refl _) (.cells #[.int .i64 qb.asid, .int .i64 qb.size, .int .u32 qb.va, .int .u64 qb.pa, .int .i64 qb.dom, .int .i64 qb.ap, .int .u32 qb.bits, .bool qb.ng, .bool qb.xn] 29))
      (have c0 : ((w6.alloc (.cells #[.int .i64 qb.asid, .int .i64 qb.size, .int .u32 qb.va, .int .u64 qb.pa, .int .i64 qb.dom, .int .i64 qb.ap, .int .u32 qb.bits, .bool qb.ng, .bool qb.xn] 29))).cell? ⟨w5.heap.size, 0, none⟩ = some (.int .i64 pb.asid) := (P6).cell 0; have c1 : ((w6.alloc (.cells #[.int .i64 qb.asid, .int .i64 qb.size, .int .u32 qb.va, .int .u64 qb.pa, .int .i64 qb.dom, .int .i64 qb.ap, .int .u32 qb.bits, .bool qb.ng, .bool qb.xn] 29))).cell? ⟨w5.heap.size, 1, none⟩ = some (.int .i64 pb.size) := (P6).cell 1; have c2 : ((w6.alloc (.cells #[.int .i64 qb.asid, .int .i64 qb.size, .int .u32 qb.va, .int .u64 qb.pa, .int .i64 qb.dom, .int .i64 qb.ap, .int .u32 qb.bits, .bool qb.ng, .bool qb.xn] 29))).cell? ⟨w5.heap.size, 2, none⟩ = some (.int .u32 pb.va) := (P6).cell 2; have c3 : ((w6.alloc (.cells #[.int .i64 qb.asid, .int .i64 qb.size, .int .u32 qb.va, .int .u64 qb.pa, .int .i64 qb.dom, .int .i64 qb.ap, .int .u32 qb.bits, .bool qb.ng, .bool qb.xn] 29))).cell? ⟨w5.heap.size, 3, none⟩ = some (.int .u64 pb.pa) := (P6).cell 3; have c4 : ((w6.alloc (.cells #[.int .i64 qb.asid, .int .i64 qb.size, .int .u32 qb.va, .int .u64 qb.pa, .int .i64 qb.dom, .int .i64 qb.ap, .int .u32 qb.bits, .bool qb.ng, .bool qb.xn] 29))).cell? ⟨w5.heap.size, 4, none⟩ = some (.int .i64 pb.dom) := (P6).cell 4; have c5 : ((w6.alloc (.cells #[.int .i64 qb.asid, .int .i64 qb.size, .int .u32 qb.va, .int .u64 qb.pa, .int .i64 qb.dom, .int .i64 qb.ap, .int .u32 qb.bits, .bool qb.ng, .bool qb.xn] 29))).cell? ⟨w5.heap.size, 5, none⟩ = some (.int .i64 pb.ap) := (P6).cell 5; have c6 : ((w6.alloc (.cells #[.int .i64 qb.asid, .int .i64 qb.size, .int .u32 qb.va, .int .u64 qb.pa, .int .i64 qb.dom, .int .i64 qb.ap, .int .u32 qb.bits, .bool qb.ng, .bool qb.xn] 29))).cell? ⟨w5.heap.size, 6, none⟩ = some (.int .u32 pb.bits) := (P6).cell 6; have c7 : ((w6.alloc (.cells #[.int .i64 qb.asid, .int .i64 qb.size, .int .u32 qb.va, .int .u64 qb.pa, .int .i64 qb.dom, .int .i64 qb.ap, .int .u32 qb.bits, .bool qb.ng, .bool qb.xn] 29))).cell? ⟨w5.heap.size, 7, none⟩ = some (.bool pb.ng) := (P6).cell 7; have c8 : ((w6.alloc (.cells #[.int .i64 qb.asid, .int .i64 qb.size, .int .u32 qb.va, .int .u64 qb.pa, .int .i64 qb.dom, .int .i64 qb.ap, .int .u32 qb.bits, .bool qb.ng, .bool qb.xn] 29))).cell? ⟨w5.heap.size, 8, none⟩ = some (.bool pb.xn) := (P6).cell 8)
      (have d0 : ((w6.alloc (.cells #[.int .i64 qb.asid, .int .i64 qb.size, .int .u32 qb.va, .int .u64 qb.pa, .int .i64 qb.dom, .int .i64 qb.ap, .int .u32 qb.bits, .bool qb.ng, .bool qb.xn] 29))).cell? ⟨w6.heap.size, 0, none⟩ = some (.int .i64 qb.asid) := (Q6).cell 0; have d1 : ((w6.alloc (.cells #[.int .i64 qb.asid, .int .i64 qb.size, .int .u32 qb.va, .int .u64 qb.pa, .int .i64 qb.dom, .int .i64 qb.ap, .int .u32 qb.bits, .bool qb.ng, .bool qb.xn] 29))).cell? ⟨w6.heap.size, 1, none⟩ = some (.int .i64 qb.size) := (Q6).cell 1; have d2 : ((w6.alloc (.cells #[.int .i64 qb.asid, .int .i64 qb.size, .int .u32 qb.va, .int .u64 qb.pa, .int .i64 qb.dom, .int .i64 qb.ap, .int .u32 qb.bits, .bool qb.ng, .bool qb.xn] 29))).cell? ⟨w6.heap.size, 2, none⟩ = some (.int .u32 qb.va) := (Q6).cell 2; have d3 : ((w6.alloc (.cells #[.int .i64 qb.asid, .int .i64 qb.size, .int .u32 qb.va, .int .u64 qb.pa, .int .i64 qb.dom, .int .i64 qb.ap, .int .u32 qb.bits, .bool qb.ng, .bool qb.xn] 29))).cell? ⟨w6.heap.size, 3, none⟩ = some (.int .u64 qb.pa) := (Q6).cell 3; have d4 : ((w6.alloc (.cells #[.int .i64 qb.asid, .int .i64 qb.size, .int .u32 qb.va, .int .u64 qb.pa, .int .i64 qb.dom, .int .i64 qb.ap, .int .u32 qb.bits, .bool qb.ng, .bool qb.xn] 29))).cell? ⟨w6.heap.size, 4, none⟩ = some (.int .i64 qb.dom) := (Q6).cell 4; have d5 : ((w6.alloc (.cells #[.int .i64 qb.asid, .int .i64 qb.size, .int .u32 qb.va, .int .u64 qb.pa, .int .i64 qb.dom, .int .i64 qb.ap, .int .u32 qb.bits, .bool qb.ng, .bool qb.xn] 29))).cell? ⟨w6.heap.size, 5, none⟩ = some (.int .i64 qb.ap) := (Q6).cell 5; have d6 : ((w6.alloc (.cells #[.int .i64 qb.asid, .int .i64 qb.size, .int .u32 qb.va, .int .u64 qb.pa, .int .i64 qb.dom, .int .i64 qb.ap, .int .u32 qb.bits, .bool qb.ng, .bool qb.xn] 29))).cell? ⟨w6.heap.size, 6, none⟩ = some (.int .u32 qb.bits) := (Q6).cell 6; have d7 : ((w6.alloc (.cells #[.int .i64 qb.asid, .int .i64 qb.size, .int .u32 qb.va, .int .u64 qb.pa, .int .i64 qb.dom, .int .i64 qb.ap, .int .u32 qb.bits, .bool qb.ng, .bool qb.xn] 29))).cell? ⟨w6.heap.size, 7, none⟩ = some (.bool qb.ng) := (Q6).cell 7; have d8 : ((w6.alloc (.cells #[.int .i64 qb.asid, .int .i64 qb.size, .int .u32 qb.va, .int .u64 qb.pa, .int .i64 qb.dom, .int .i64 qb.ap, .int .u32 qb.bits, .bool qb.ng, .bool qb.xn] 29))).cell? ⟨w6.heap.size, 8, none⟩ = some (.bool qb.xn) := (Q6).cell 8)
      have AM : ∀ (b : Blk) (W : World), b ∈ OK → OwnB W M (.slice A3 OK.length cv3) OK → Calls Tryd.prog 42 #[.slice A3 OK.length cv3, (.agg #[.int .i64 b.asid, .int .i64 b.size, .int .u32 b.va, .int .u64 b.pa, .int .i64 b.dom, .int .i64 b.ap, .int .u32 b.bits, .bool b.ng, .bool b.xn])] W fun e w' => e = .returned (.bool true) ∧ Below W.heap.size W w' := by
        intro b W hb ho
        obtain ⟨A4, c4, hv, hS, -, -, -⟩ := ho.form
        obtain ⟨rfl, -, rfl⟩ := Value.slice.inj hv
        have := among_is OK b A3 cv3 hokl W hS
        rwa [amongB_mem.2 hb] at this
      have AM := Lib.hid AM
      have p5l := P5.lt
      obtain rfl | rfl : m = 0 ∨ m = 1 := by omega
      · obtain rfl | rfl : n = 0 ∨ n = 1 := by omega
        · go_wp2_with fail
          go_roundw
          case rel => exact ⟨k2 + 1, _, _, by omega, by go_num, I6a⟩
          case measure => simp [intOf]; omega
        · go_wp2_with fail
          refine (AM.out qb _ (NN.out.1 (by simp)) I6a.own).mono ?_
          rintro e w7 ⟨rfl, b7⟩
          go_wp2_with fail
          go_roundw
          case rel => exact ⟨k2 + 1, _, _, by omega, by go_num, I6a.below b7⟩
          case measure => simp [intOf]; omega
      · obtain rfl | rfl : n = 0 ∨ n = 1 := by omega
        · go_wp2_with fail
          refine (AM.out pb _ (MM.out.1 (by simp)) I6a.own).mono ?_
          rintro e w7 ⟨rfl, b7⟩
          go_wp2_with fail
          go_roundw
          case rel => exact ⟨k2 + 1, _, _, by omega, by go_num, I6a.below b7⟩
          case measure => simp [intOf]; omega
        · have hpq := PQ.out (by simp) (by simp)
          subst hpq
          have hne := neq_self pb
          go_wp2_with fail
          refine (AM.out pb _ (MM.out.1 (by simp)) I6a.own).mono ?_
          rintro e w7 ⟨rfl, b7⟩
          have Q7 := Q6.below b7 Q6.lt
          (have f0 : (w7).cell? ⟨w6.heap.size, 0, none⟩ = some (.int .i64 pb.asid) := (Q7).cell 0; have f1 : (w7).cell? ⟨w6.heap.size, 1, none⟩ = some (.int .i64 pb.size) := (Q7).cell 1; have f2 : (w7).cell? ⟨w6.heap.size, 2, none⟩ = some (.int .u32 pb.va) := (Q7).cell 2; have f3 : (w7).cell? ⟨w6.heap.size, 3, none⟩ = some (.int .u64 pb.pa) := (Q7).cell 3; have f4 : (w7).cell? ⟨w6.heap.size, 4, none⟩ = some (.int .i64 pb.dom) := (Q7).cell 4; have f5 : (w7).cell? ⟨w6.heap.size, 5, none⟩ = some (.int .i64 pb.ap) := (Q7).cell 5; have f6 : (w7).cell? ⟨w6.heap.size, 6, none⟩ = some (.int .u32 pb.bits) := (Q7).cell 6; have f7 : (w7).cell? ⟨w6.heap.size, 7, none⟩ = some (.bool pb.ng) := (Q7).cell 7; have f8 : (w7).cell? ⟨w6.heap.size, 8, none⟩ = some (.bool pb.xn) := (Q7).cell 8)
          go_wp2_with fail
          refine (AM.out pb _ (MM.out.1 (by simp)) (I6a.below b7).own).mono ?_
          rintro e w8 ⟨rfl, b8⟩
          go_wp2_with fail
          go_roundw
          case rel => exact ⟨k2 + 1, _, _, by omega, by go_num, (I6a.below b7).below b8⟩
          case measure => simp [intOf]; omega
    · go_wp2_with fail
      exact I.bel

end Go.Proofs.YtngcpcgioophcaaDoor

namespace Go.Proofs.YtngcpcgioophcaaDoor
open Go.RowKit

set_option maxHeartbeats 12800000 in
set_option maxRecDepth 100000 in
theorem order_walk (A1 : Option Addr) (c1 : Nat) (zs : List Int) (p : Option Addr) (cap : Nat) (os : List Op11) (A : Option Addr) (c2 : Nat) (L : List Blk) (w : World) (hs : Shf w)
    (hZ : ISl w A1 zs) (hzm : zs.length ≤ maxLen) (hos : ∀ o ∈ os, o.Ok ∧ 0 ≤ o.va ∧ o.va ≤ 4294967295) (hmax : os.length ≤ maxLen) (hO : OpsIn11 w.heap.size w p os) (hL : BSl w A L) (hLo : ∀ b ∈ L, b.Ok) (hLm : L.length * 56 ≤ 140737488351232) :
    Calls Tryd.prog 9 #[.slice A1 zs.length c1, .slice p os.length cap, .slice A L.length c2] w fun e w' => e = .returned (.bool true) ∧ Below w.heap.size w w' := by
  have hml : os.length < 9223372036854775808 := Nat.lt_of_le_of_lt hmax (by decide)
  have hzl : zs.length < 9223372036854775808 := Nat.lt_of_le_of_lt hzm (by decide)
  clear hmax hzm
  have hLl : L.length < 9223372036854775808 := by omega
  have HLM := Lib.hid hLm
  clear hLm
  have NA := Lib.hid (hier_New_yes 1 1 1 (by omega) (by omega) (by omega) (by omega) (by omega) (by omega) w hs)
  have HLO := Lib.hid hLo
  have HOS := Lib.hid hos
  clear hLo hos
  go_enter Tryd.func9, Tryd.ntmps9
  go_wp2_with fail
  refine NA.out.mono ?_
  rintro e w1 ⟨hA, tA, gA, rfl, HA1, FA, b1⟩
  have s1 := hs.below hs.pos b1
  have S0 : Blok (w1.alloc (.cells #[.int .i64 64, .int .i64 64, .int .i64 64] 75)) w1.heap.size 75 ([64, 64, 64].map (Value.int .i64)) := Blok.new w1 _ _
  have HA2 := HA1.alloc (.cells #[.int .i64 64, .int .i64 64, .int .i64 64] 75)
  have s2 := s1.alloc (.cells #[.int .i64 64, .int .i64 64, .int .i64 64] 75)
  have b2 := b1.alloc b1.size (.cells #[.int .i64 64, .int .i64 64, .int .i64 64] 75)
  have n1 : In3 gA w1.heap.size → False := fun ⟨k, a, c, e⟩ => by have := (HA1.th.t k a c).sl.lt; omega
  have sepA : hA < w1.heap.size ∧ ∀ k, 1 ≤ k → k ≤ 3 → tA k < w1.heap.size ∧ gA k < w1.heap.size := ⟨HA1.b.lt, fun k a c => ⟨(HA1.th.t k a c).hd.lt, (HA1.th.t k a c).sl.lt⟩⟩
  have hz1 := b1.size
  clear NA HA1 s1 b1
  go_upto_block 0 with (fail)
  go_cut [10] (fun _ wc => ∃ S : List Int, SzOk S ∧ Blok wc w1.heap.size 75 (S.map (Value.int .i64)) ∧ IsHier wc hA tA gA (rows3 1 1 1) ∧ Shf wc ∧ Below w.heap.size w wc)
  case first =>
    go_wp2_with fail
    go_loopw [10] (fun v10 wr => ∃ (k : Nat) (S : List Int), k ≤ 3 ∧ v10 = .int .i64 k ∧ SzOk S ∧ Blok wr w1.heap.size 75 (S.map (Value.int .i64)) ∧ IsHier wr hA tA gA (rows3 1 1 1) ∧ Shf wr ∧ Below w.heap.size w wr) (fun v10 _ => 3 - (intOf v10).toNat)
    case atStart => exact ⟨0, [64, 64, 64], Nat.zero_le _, rfl, ⟨rfl, by simp⟩, S0, HA2, s2, b2⟩
    case round =>
      clear S0 HA2 s2 b2
      obtain ⟨k, S, hk, rfl, hS, hSb, hHA, hsr, hB⟩ := hrel
      by_cases hlt : k < 3 ∧ k < zs.length
      · obtain ⟨h3, hlz⟩ := hlt
        obtain ⟨z, hz⟩ : ∃ z, zs[k]? = some z := ⟨_, List.getElem?_eq_getElem hlz⟩
        obtain ⟨g, k0, hq, hg, hc⟩ := hZ k z hz
        subst hq
        have c0 : wr.cell? ⟨g, k0 + k, none⟩ = some (.int .i64 z) := (hB.cell hg).trans hc
        have hm := tmod64 z
        obtain ⟨m, hmm⟩ : ∃ m, z.tmod 64 = m := ⟨_, rfl⟩
        rw [hmm] at hm
        obtain ⟨m0, m1⟩ := hm
        have hq2 : (m + 64).tmod 64 = (m + 64) % 64 := Int.tmod_eq_emod_of_nonneg (by omega)
        obtain ⟨q, hqq⟩ : ∃ q, (m + 64) % 64 = q := ⟨_, rfl⟩
        have q0 : 0 ≤ q := by omega
        have q1 : q < 64 := by omega
        rw [hqq] at hq2
        have i0 : (0 : Int) ≤ ↑k := by omega
        have i1 : (↑k : Int) < 3 := by omega
        have i2 : (↑k : Int) < ↑zs.length := by omega
        have cs : wr.cell? ⟨w1.heap.size, k, none⟩ = some (.int .i64 (S.getD k 0)) := by
          rw [hSb.cell]
          have : k < S.length := by rw [hS.1]; exact h3
          simp [List.getD_eq_getElem?_getD, this]
        have cf : wr.frozen? ⟨w1.heap.size, k, none⟩ = false := hSb.frozen k
        have HS := Lib.hid hS
        have HN := Lib.hid n1
        have HSB := Lib.hid hSb
        clear hz hc hqq hS n1 hSb
        go_wp2_with fail
        go_roundw
        case rel =>
          have gs := grown_setCell wr w1.heap.size k (.int .i64 (1 + q))
          refine ⟨k + 1, S.set k (1 + q), by omega, by go_num, HS.out.set_ k _ (by omega) (by omega), ?_, hHA.far1 gs (by have := sepA.1; omega) (fun j a c => by have := sepA.2 j a c; omega), hsr.grown gs (by intro e; have := Option.some.inj e; have := sepA.1; omega), ((GrownS.ofBelow hB).one (S := fun b => w.heap.size ≤ b) gs hz1).bel (Nat.le_refl _) (fun i hi => hi)⟩
          have := HSB.out.set_ k (.int .i64 (1 + q))
          rwa [← List.map_set] at this
        case measure => simp [intOf]; omega
      · rcases (show k = 3 ∨ (k < 3 ∧ ¬ k < zs.length) by omega) with rfl | ⟨h3, hz3⟩
        · clear hlt
          go_wp2_with fail
          go_meet
          case rel => exact ⟨S, hS, hSb, hHA, hsr, hB⟩
        · clear hlt
          go_wp2_with fail
          go_meet
          case rel => exact ⟨S, hS, hSb, hHA, hsr, hB⟩
  case rest =>
    obtain ⟨S, hS, hSb, hHA, hsr, hB⟩ := hcut
    clear S0 HA2 s2 b2
    obtain ⟨hS3, hSm⟩ := hS
    match S, hS3 with
    | [x0, x1, x2], _ =>
      obtain ⟨m0, hm0⟩ := Int.eq_ofNat_of_zero_le (show 0 ≤ x0 by have := hSm x0 (by simp); omega)
      obtain ⟨m1, hm1⟩ := Int.eq_ofNat_of_zero_le (show 0 ≤ x1 by have := hSm x1 (by simp); omega)
      obtain ⟨m2, hm2⟩ := Int.eq_ofNat_of_zero_le (show 0 ≤ x2 by have := hSm x2 (by simp); omega)
      subst hm0 hm1 hm2
      have y0 := hSm m0 (by simp)
      have y1 := hSm m1 (by simp)
      have y2 := hSm m2 (by simp)
      have NB := Lib.hid (hier_New_yes m0 m1 m2 (by omega) (by omega) (by omega) (by omega) (by omega) (by omega) wc hsr)
      have d0 : wc.cell? ⟨w1.heap.size, 0, none⟩ = some (.int .i64 m0) := hSb.cell 0
      have d1 : wc.cell? ⟨w1.heap.size, 1, none⟩ = some (.int .i64 m1) := hSb.cell 1
      have d2 : wc.cell? ⟨w1.heap.size, 2, none⟩ = some (.int .i64 m2) := hSb.cell 2
      have hlt1 : w1.heap.size < wc.heap.size := hSb.lt
      clear hSm hSb y0 y1 y2 n1
      go_wp2_with fail
      refine NB.out.mono ?_
      rintro e w4 ⟨hBb, tB, gB, rfl, HB4, FB, b4⟩
      obtain ⟨M, hM⟩ : ∃ M, w4.heap.size = M := ⟨_, rfl⟩
      have sep0 : OSep w.heap.size wc.heap.size M hA hBb tA gA tB gB := ⟨⟨by have := sepA.1; omega, fun k a c => by have := sepA.2 k a c; omega⟩, ⟨FB.1, fun k a c => FB.2 k a c⟩, ⟨by have := HB4.b.lt; omega, fun k a c => ⟨by have := (HB4.th.t k a c).hd.lt; omega, by have := (HB4.th.t k a c).sl.lt; omega⟩⟩, by have := b4.size; omega, fun k a c => (FA.2 k a c).2, hB.size⟩
      have I0 : OInv w M hA hBb tA gA tB gB w4 (.slice none 0 0) [] (rows3 1 1 1) (rows3 m0 m1 m2) := ⟨OwnB.nil _ _, hHA.below b4, HB4, rows3_ok _ _ _, rows3_ok _ _ _, rows3_only _ _ _ _, rows3_only _ _ _ _, rows3_nod _ _ _, rows3_nod _ _ _, (fun b hb => by cases hb), (fun b hb => by cases hb), hsr.below hsr.pos b4, bthen hB b4, Nat.le_of_eq hM.symm⟩
      have SEP := Lib.hid sep0
      clear sep0 sepA FA FB hHA HB4 hsr hB b4 hlt1 hM d0 d1 d2 NB
      obtain ⟨xa0, hxa0⟩ : ∃ xa0, rows3 1 1 1 = xa0 := ⟨_, rfl⟩
      obtain ⟨xb0, hxb0⟩ : ∃ xb0, rows3 m0 m1 m2 = xb0 := ⟨_, rfl⟩
      rw [hxa0, hxb0] at I0
      clear hxa0 hxb0
      obtain ⟨ii, hii, hz0, hz1', hz2⟩ := info_parts blk_info
      have HII := Lib.hid (And.intro hii (And.intro hz0 (And.intro hz1' hz2)))
      clear hii hz0 hz1' hz2
      go_wp2_with fail
      go_loopw [13, 14] (fun v13 v14 wr => ∃ (k : Nat) (OK : List Blk) (xa xb : Nat → List Slot), k ≤ L.length ∧ v14 = .int .i64 k ∧ OK.length ≤ k ∧ OInv w M hA hBb tA gA tB gB wr v13 OK xa xb) (fun _ v14 _ => L.length - (intOf v14).toNat)
      case atStart => exact ⟨0, [], xa0, xb0, Nat.zero_le _, rfl, Nat.le_refl _, I0⟩
      case round =>
        clear I0
        obtain ⟨k, OK, xa, xb, hk, rfl, hkl, I⟩ := hrel
        obtain ⟨A3, cv3, hv, hS3, -, -, -⟩ := I.own.form
        subst hv
        by_cases hlt : k < L.length
        · obtain ⟨x, hx⟩ : ∃ x, L[k]? = some x := ⟨_, List.getElem?_eq_getElem hlt⟩
          obtain ⟨g, k0, hq, hg, hc⟩ := hL k x hx
          subst hq
          have hxo := HLO.out x (List.mem_of_getElem? hx)
          have hcw : ∀ (W : World), Below w.heap.size w W → ∀ j v, (blkCells x)[j]? = some v → W.cell? ⟨g, k0 + k * 9 + j, none⟩ = some v := fun W hb j v hv => (hb.cell hg).trans (hc j v hv)
          have HCW := Lib.hid hcw
          have HXO := Lib.hid hxo
          clear hc hcw hx hxo
          have i0 : (0 : Int) ≤ ↑k := by omega
          have i1 : (↑k : Int) < ↑L.length := by omega
          have c0 : wr.cell? ⟨g, k0 + k * 9, none⟩ = some (.int .i64 x.asid) := HCW.out _ I.bel 0 _ rfl
          have c1 := HCW.out _ I.bel 1 _ rfl
          have c2 := HCW.out _ I.bel 2 _ rfl
          have c3' := HCW.out _ I.bel 3 _ rfl
          have c4 := HCW.out _ I.bel 4 _ rfl
          have c5 := HCW.out _ I.bel 5 _ rfl
          have c6 := HCW.out _ I.bel 6 _ rfl
          have c7 := HCW.out _ I.bel 7 _ rfl
          have c8 := HCW.out _ I.bel 8 _ rfl
          go_wp2_with fail
          refine (tlb_Right_is x HXO.out _ I.shf).mono ?_
          rintro e w5 ⟨rfl, b5⟩
          have I5 := I.below b5
          clear c0 c1 c2 c3' c4 c5 c6 c7 c8 I b5 hS3
          go_wp2_with fail
          go_loopw [15, 16] (fun v15 v16 wq => ∃ j : Nat, j ≤ OK.length ∧ v16 = .int .i64 j ∧ v15 = .bool (goodTo x OK j) ∧ OInv w M hA hBb tA gA tB gB wq (.slice A3 OK.length cv3) OK xa xb) (fun _ v16 _ => OK.length - (intOf v16).toNat)
          case atStart => exact ⟨0, Nat.zero_le _, rfl, by rw [goodTo_zero], I5⟩
          case round =>
            clear I5
            obtain ⟨j, hj, rfl, rfl, Iq⟩ := hrel
            by_cases hlj : j < OK.length
            · obtain ⟨y, hy⟩ : ∃ y, OK[j]? = some y := ⟨_, List.getElem?_eq_getElem hlj⟩
              obtain ⟨A3', c3', hv, hS3, -, -, -⟩ := Iq.own.form
              obtain ⟨rfl, -, rfl⟩ := Value.slice.inj hv
              obtain ⟨g3, k3, hq3, hg3, hc3⟩ := hS3 j y hy
              subst hq3
              have hyo := Iq.ok y (List.mem_of_getElem? hy)
              have GN := goodTo_next x OK j y hy
              have j0 : (0 : Int) ≤ ↑j := by omega
              have j1 : (↑j : Int) < ↑OK.length := by omega
              obtain ⟨gd, hgd⟩ : ∃ gd, goodTo x OK j = gd := ⟨_, rfl⟩
              rw [hgd] at GN ⊢
              have GN := Lib.hid GN
              have HYO := Lib.hid hyo
              clear hgd hyo hy hv
              cases gd
              · clear hS3 hc3
                go_wp2_with fail
                go_quiet (fail)
                go_wp2
                go_roundw
                case rel => exact ⟨j + 1, by omega, by go_num, by rw [GN.out]; rfl, Iq.below (bdrewN (Below.refl _ _) _)⟩
                case measure => simp [intOf]; omega
              · have e0 : wr.cell? ⟨g3, k3 + j * 9, none⟩ = some (.int .i64 y.asid) := hc3 0 _ rfl
                have e1 := hc3 1 _ rfl
                have e2 := hc3 2 _ rfl
                have e3 := hc3 3 _ rfl
                have e4 := hc3 4 _ rfl
                have e5 := hc3 5 _ rfl
                have e6 := hc3 6 _ rfl
                have e7 := hc3 7 _ rfl
                have e8 := hc3 8 _ rfl
                have c0 : wr.cell? ⟨g, k0 + k * 9, none⟩ = some (.int .i64 x.asid) := HCW.out _ Iq.bel 0 _ rfl
                have c1 := HCW.out _ Iq.bel 1 _ rfl
                have c2 := HCW.out _ Iq.bel 2 _ rfl
                have c3 := HCW.out _ Iq.bel 3 _ rfl
                have c4 := HCW.out _ Iq.bel 4 _ rfl
                have c5 := HCW.out _ Iq.bel 5 _ rfl
                have c6 := HCW.out _ Iq.bel 6 _ rfl
                have c7 := HCW.out _ Iq.bel 7 _ rfl
                have c8 := HCW.out _ Iq.bel 8 _ rfl
                have Id := Iq.below (bdrew (Below.refl _ _))
                clear hS3 hc3
                go_wp2_with fail
                (refine wp_region_tail 10 (by kernel_rfl) (by kernel_rfl) ?_; simp only [List.take_succ_cons, List.take_zero, List.drop_succ_cons, List.drop_zero]; (repeat still_step); (try refine wpStill_nil ?_))
                go_wp2_with (go_at_call 39; refine (apart_is y x HYO.out HXO.out _ Id.shf).mono ?_; rintro e w6 ⟨rfl, b6⟩)
                go_roundw
                case rel => exact ⟨j + 1, by omega, by go_num, by rw [GN.out]; rfl, Id.below b6⟩
                case measure => simp [intOf]; omega
            · have hje : j = OK.length := by omega
              subst hje
              have GA := goodTo_all x OK
              obtain ⟨gd, hgd⟩ : ∃ gd, goodTo x OK OK.length = gd := ⟨_, rfl⟩
              rw [hgd] at GA ⊢
              have GA := Lib.hid GA
              clear hgd hlj hj
              cases gd
              · go_wp2_with fail
                go_roundw
                case rel => exact ⟨k + 1, OK, xa, xb, by omega, by go_num, by omega, Iq⟩
                case measure => simp [intOf]; omega
              · obtain ⟨hrx, hax⟩ := GA.out rfl
                have HKN : keepN x x.va (bits .and .i64 x.asid 255) = 0 := by unfold keepN; rw [overB_own x hrx, if_pos rfl]
                obtain ⟨aa, haa⟩ : ∃ aa, bits .and .i64 x.asid 255 = aa := ⟨_, rfl⟩
                rw [haa] at HKN
                have KA0 : ∀ (W : World) (f : Bool), Shf W → IsHier W hA tA gA xa → Calls Tryd.prog 40 #[.pointer (some ⟨hA, 0, none⟩), (.agg #[.int .i64 x.asid, .int .i64 x.size, .int .u32 x.va, .int .u64 x.pa, .int .i64 x.dom, .int .i64 x.ap, .int .u32 x.bits, .bool x.ng, .bool x.xn]), .int .u32 x.va, .int .i64 aa, .bool f, .int .i64 k] W fun e w' => e = .returned (.int .i64 0) ∧ IsHier w' hA tA gA (keepR xa x x.va aa f k) ∧ GrownS W w' (In3 gA) := by
                  intro W f h1 h2
                  have := hier_Keep_is x HXO.out x.va aa f k (by omega) (by omega) hA tA gA xa Iq.oa W h1 h2
                  rwa [HKN] at this
                have KB0 : ∀ (W : World) (f : Bool), Shf W → IsHier W hBb tB gB xb → Calls Tryd.prog 40 #[.pointer (some ⟨hBb, 0, none⟩), (.agg #[.int .i64 x.asid, .int .i64 x.size, .int .u32 x.va, .int .u64 x.pa, .int .i64 x.dom, .int .i64 x.ap, .int .u32 x.bits, .bool x.ng, .bool x.xn]), .int .u32 x.va, .int .i64 aa, .bool f, .int .i64 (-(k : Int))] W fun e w' => e = .returned (.int .i64 0) ∧ IsHier w' hBb tB gB (keepR xb x x.va aa f (-(k : Int))) ∧ GrownS W w' (In3 gB) := by
                  intro W f h1 h2
                  have := hier_Keep_is x HXO.out x.va aa f (-(k : Int)) (by omega) (by omega) hBb tB gB xb Iq.ob W h1 h2
                  rwa [HKN] at this
                have KA := Lib.hid KA0
                have KB := Lib.hid KB0
                have HAX := Lib.hid hax
                have HAA := Lib.hid haa
                clear KA0 KB0 hax hrx HKN GA haa
                have hmem : ∀ b, b ∈ OK ++ [x] ↔ b ∈ OK ∨ b = x := fun b => by simp
                have c0 : wr.cell? ⟨g, k0 + k * 9, none⟩ = some (.int .i64 x.asid) := HCW.out _ Iq.bel 0 _ rfl
                have c1 := HCW.out _ Iq.bel 1 _ rfl
                have c2 := HCW.out _ Iq.bel 2 _ rfl
                have c3 := HCW.out _ Iq.bel 3 _ rfl
                have c4 := HCW.out _ Iq.bel 4 _ rfl
                have c5 := HCW.out _ Iq.bel 5 _ rfl
                have c6 := HCW.out _ Iq.bel 6 _ rfl
                have c7 := HCW.out _ Iq.bel 7 _ rfl
                have c8 := HCW.out _ Iq.bel 8 _ rfl
                have Ia := Iq.below ((Below.refl _ _).alloc (Nat.le_refl _) (.cells #[.int .i64 x.asid, .int .i64 x.size, .int .u32 x.va, .int .u64 x.pa, .int .i64 x.dom, .int .i64 x.ap, .int .u32 x.bits, .bool x.ng, .bool x.xn] 29))
                have hnw : ∀ j u, (blkCells x)[j]? = some u → (wr.alloc (.cells #[.int .i64 x.asid, .int .i64 x.size, .int .u32 x.va, .int .u64 x.pa, .int .i64 x.dom, .int .i64 x.ap, .int .u32 x.bits, .bool x.ng, .bool x.xn] 29)).cell? ((⟨wr.heap.size, 0, none⟩ : Addr).add j) = some u := World.news_of_block (cs := #[.int .i64 x.asid, .int .i64 x.size, .int .u32 x.va, .int .u64 x.pa, .int .i64 x.dom, .int .i64 x.ap, .int .u32 x.bits, .bool x.ng, .bool x.xn]) (heap_alloc_new wr _)
                have HNW := Lib.hid hnw
                have HMEM := Lib.hid hmem
                clear hnw hmem
                go_wp2_with (refine wpList_append_lies _ rfl (.tmp 103) (.tmp 108) 71 rfl M 29 ii _ 9 56 Tryd.underlying71 HII.out.1 HII.out.2.1 HII.out.2.2.1 HII.out.2.2.2 rfl (by decide) (.slice A3 OK.length cv3) OK.length (bkFlat OK) rfl Ia.own ⟨wr.heap.size, 0, none⟩ 1 1 (blkCells x) rfl rfl HNW.out (oneCell_blk x) (by omega) (by unfold maxLen; have := HLM.out; omega) (by have := HLM.out; omega) Ia.mle _ rfl ?_; intro g7 cap7 w7 hown7 hgrow7 hat7 hlt7; have own7 : OwnB w7 M (.slice (some ⟨g7, 0, none⟩) (OK.length + 1) cap7) (OK ++ [x]) := own_snoc hown7; have I7 := Ia.app SEP.out hgrow7 own7 HXO.out HAX.out; have e2 : w7.cell? ⟨g, k0 + k * 9 + 1 + 1, none⟩ = some (.int .u32 x.va) := HCW.out w7 I7.bel 2 _ rfl)
                clear c0 c1 c2 c3 c4 c5 c6 c7 c8 Iq Ia hown7 hgrow7 hat7 hlt7 own7 e2
                have hng : ¬ In6 gA gB g := fun c => by
                  rcases c with ⟨kk, a1, a3, e⟩ | ⟨kk, a1, a3, e⟩
                  · have := SEP.out.l kk a1 a3; omega
                  · have := (SEP.out.b.2 kk a1 a3).2; have := SEP.out.lb; omega
                have hgl : g < w7.heap.size := Nat.lt_of_lt_of_le hg I7.bel.size
                have nc : ∀ j v, (blkCells x)[j]? = some v → ∀ w', GrownS w7 w' (In6 gA gB) → w'.cell? ⟨g, k0 + k * 9 + j, none⟩ = some v := fun j v hv w' g' => (g'.cell hgl hng).trans (HCW.out w7 I7.bel j v hv)
                have NC := Lib.hid nc
                clear nc
                have n0 : ∀ w', GrownS w7 w' (In6 gA gB) → w'.cell? ⟨g, k0 + k * 9, none⟩ = some (.int .i64 x.asid) := NC.out 0 _ rfl
                have n1 := NC.out 1 _ rfl
                have n2 := NC.out 2 _ rfl
                have n3 := NC.out 3 _ rfl
                have n4 := NC.out 4 _ rfl
                have n5 := NC.out 5 _ rfl
                have n6 := NC.out 6 _ rfl
                have n7 := NC.out 7 _ rfl
                have n8 := NC.out 8 _ rfl
                have hxaa := HAA.out
                have neg : IntKind.i64.wrap (-(k : Int)) = -(k : Int) := IntWalk.i64_in _ (by omega)
                go_wp2_with fail
                go_region_held3 (fun w' => GrownS w7 w' (In6 gA gB))
                  (first | with_reducible assumption | exact GrownS.drew _ _)
                  (first
                    | (go_at_call 40; (with_reducible refine (KB.out _ _ I8.shf I8.hb).mono ?_); rintro e w9 ⟨rfl, hH9, hg9⟩; have g9 : GrownS w7 w9 (In6 gA gB) := g8.trans hg9.right6; have I9 := I8.inB SEP.out hg9 hH9 (keepR_ok3 I8.ob HXO.out _ _ _ _) (keepR_only I8.lb x ((HMEM.out x).2 (.inr rfl)) _ _ _ _) (keepR_nod I8.nb _ _ _ _ _))
                    | (go_at_call 40; (with_reducible refine (KA.out _ _ (I7.below (bdrew (Below.refl _ _))).shf (I7.below (bdrew (Below.refl _ _))).ha).mono ?_); rintro e w8 ⟨rfl, hH8, hg8⟩; have g8 : GrownS w7 w8 (In6 gA gB) := (GrownS.drew _ _).trans hg8.left6; have I8 := (I7.below (bdrew (Below.refl _ _))).inA SEP.out hg8 hH8 (keepR_ok3 I7.oa HXO.out _ _ _ _) (keepR_only I7.la x ((HMEM.out x).2 (.inr rfl)) _ _ _ _) (keepR_nod I7.na _ _ _ _ _)))
                all_goals
                  go_wp2
                  go_roundw
                  case rel => exact ⟨k + 1, OK ++ [x], _, _, by omega, by go_num, by simp; omega, by simpa using I9⟩
                  case measure => simp [intOf]; omega
        · clear hS3
          go_wp2_with fail
          have hokl : OK.length < 9223372036854775808 := by omega
          refine order_loop p cap os w HOS hml hO wc.heap.size M hA hBb tA gA tB gB SEP A3 cv3 OK hokl xa xb _ I ?_
          intros
          rename_i hbel
          go_wp2
          go_ret
          exact ⟨rfl, hbel⟩
end Go.Proofs.YtngcpcgioophcaaDoor

namespace Go.Proofs.YtngcpcgioophcaaDoor.hierOrder
open Go.ChangeShapes Go.WideShapes Go.ChangeAt Go.RowKit
set_option maxRecDepth 100000

theorem contract (H : Type) (enc : TypeId × Value → H) (W : World) (base : Nat) (args : Array Value) (ds gs : List (DataW H)) (before : List MemPlace)
    (hval : ∀ (j : Nat) t v, Tryd.f9.params[j]? = some t → args[j]? = some v → Value.okWide Tryd.prog W .any base t v)
    (hW : DataW.Whole enc Tryd.prog Tryd.f9.params.toList Rows.hierOrderSpec.vars false W args.toList ds gs before) (hL : laidMetH Tryd.prog Rows.hierOrderRow.laid W) (hsz0 : (DataW.weightsEach Tryd.prog (Tryd.f9.params.toList ++ (OpenSpec.ofChange Rows.hierOrderSpec).bare.plain.varTypes Tryd.prog) (ds ++ gs)).all (· ≤ reachBytes) = true) :
    Calls Tryd.prog 9 args W fun e W' => ∃ v, e = .returned v ∧ Rows.hierOrderSpec.post enc Tryd.prog Tryd.f9 false true false false W args v W' := by
  have hW' := hW
  obtain ⟨p, q, hA0, hV, rfl, hfz, hnd⟩ := hW
  have hA : DataW.TrodAll enc Tryd.prog W 0 (fun _ => true) true Tryd.f9.params.toList args.toList ds p := hA0
  rw [Tryd.params9] at hA hval
  rw [Tryd.params9] at hsz0
  obtain ⟨v0, vs0, d0, ds0, p0, q0, hargs, rfl, rfl, h0, r0⟩ := trodAll_cons hA
  obtain ⟨v1, vs1, d1, ds1, p1, q1, rfl, rfl, rfl, h1, r1⟩ := trodAll_cons r0
  obtain ⟨v2, vs2, d2, ds2, p2, q2, rfl, rfl, rfl, h2, r2⟩ := trodAll_cons r1
  obtain ⟨rfl, rfl, rfl⟩ := trodAll_nil r2
  obtain rfl : args = #[v0, v1, v2] := by cases args; simp_all
  obtain ⟨rfl, rfl⟩ := trodVars_none hV
  have k0 := h0
  have lt0 : ∀ x ∈ p0, x.block < W.heap.size := by obtain ⟨m, hm⟩ := k0; exact DataW.trod_lt m _ _ _ hm
  obtain ⟨A0, c0, a0, rfl, e0, o0, x0⟩ := open_intl (hval 0 69 v0 rfl rfl) h0
  have k1 := h1
  have lt1 : ∀ x ∈ p1, x.block < W.heap.size := by obtain ⟨m, hm⟩ := k1; exact DataW.trod_lt m _ _ _ hm
  obtain ⟨q_1, c1, a1, rfl, e1, o1, x1, y1⟩ := open_ops11v (hval 1 70 v1 rfl rfl) h1
  have k2 := h2
  have lt2 : ∀ x ∈ p2, x.block < W.heap.size := by obtain ⟨m, hm⟩ := k2; exact DataW.trod_lt m _ _ _ hm
  obtain ⟨A2, c2, a2, rfl, e2, o2, x2, y2⟩ := open_blks (hval 2 71 v2 rfl rfl) h2
  clear hA0
  have z1 : a1.length * 120 ≤ 140737488351232 := by
    rcases y1 with h | ⟨es, sp, hd, hl⟩
    · rw [h]; omega
    · have hb : Tryd.prog.bytesOf 79 = 120 := by kernel_rfl
      have := sized_slice hsz0 (j := 1) (t := 70) (e := 79) rfl (by rw [hd]; rfl) Tryd.underlying70
      rw [hb] at this
      unfold reachBytes at this
      omega
  have z2 : a2.length * 56 ≤ 140737488351232 := by
    rcases y2 with h | ⟨es, sp, hd, hl⟩
    · rw [h]; omega
    · have hb : Tryd.prog.bytesOf 29 = 56 := by kernel_rfl
      have := sized_slice hsz0 (j := 2) (t := 71) (e := 29) rfl (by rw [hd]; rfl) Tryd.underlying71
      rw [hb] at this
      unfold reachBytes at this
      omega
  have hT := table hL
  refine (order_walk A0 c0 a0 q_1 c1 a1 A2 c2 a2 W hT e0 x0 o1 x1 e1 e2 o2 z2).mono fun e W' ⟨he, bel⟩ => ?_
  subst he
  exact ⟨_, rfl, _, _, _, [], _, [], hW', trodAll_mk1 (shut_bool Tryd.underlying4 _), (trodAll_cons_mk (Below.trod laidOut (by kernel_rfl) (of_decide_eq_true (by kernel_rfl)) k0 bel lt0) (trodAll_cons_mk (Below.trod laidOut (by kernel_rfl) (of_decide_eq_true (by kernel_rfl)) k1 bel lt1) (trodAll_cons_mk (Below.trod laidOut (by kernel_rfl) (of_decide_eq_true (by kernel_rfl)) k2 bel lt2) trodAll_mk0))), rfl, bel.frame _, fun h => by cases h⟩

/-- A world for the witness: the settled one, the table holding what its initialiser lays. -/
noncomputable def laidWorld (os : Os) : World :=
  { World.holding Tryd.prog os ⟨#[], #[], []⟩ with heap := (World.holding Tryd.prog os ⟨#[], #[], []⟩).heap.modify 0 fun
      | .cells _ t frozen => .cells #[.int .u64 0, .int .u64 12, .int .u64 16, .int .u64 20, .int .u64 24] t frozen
      | o => o }
theorem laid_met (os : Os) : laidMet Tryd.prog Rows.hierOrderRow.laid ((laidWorld os).forCall (fun _ _ => 0) ⟨#[], #[.slice none 0 0, .slice none 0 0, .slice none 0 0], []⟩).memory :=
  laidMet_of_run' 8 (by kernel_rfl) (by kernel_rfl)
theorem reads (os : Os) {H : Type} (enc : TypeId × Value → H) : ∃ places, DataW.whole enc Tryd.prog ((laidWorld os).forCall (fun _ _ => 0) ⟨#[], #[.slice none 0 0, .slice none 0 0, .slice none 0 0], []⟩).memory Tryd.f9.params.toList Rows.hierOrderSpec.vars false (#[.slice none 0 0, .slice none 0 0, .slice none 0 0] : Array Value).toList 8 = some ([.nil, .nil, .nil], [], places) :=
  ⟨[], by kernel_rfl⟩
theorem lifted (os : Os) (started : os.Started) (H : Type) (enc : TypeId × Value → H) (F : Stop.Interp) :
    ReturnsInHanded {} Tryd.checked os 9 .any ((OpenSpec.ofChange Rows.hierOrderSpec).preRow enc Tryd.prog Tryd.f9 Rows.hierOrderRow.domain false Rows.hierOrderRow.laid) (((OpenSpec.ofChange Rows.hierOrderSpec).at F).post enc Tryd.prog Tryd.f9 false true false false) := by
  obtain ⟨places, hx⟩ := reads os enc
  refine returnsInHanded_of_row (C := Tryd.checked) (s := OpenSpec.ofChange Rows.hierOrderSpec) own started (by kernel_rfl) Tryd.func9
    (witness_row_at (enc := enc) (C := Tryd.checked) false (laidWorld os) #[.slice none 0 0, .slice none 0 0, .slice none 0 0] rfl (by kernel_rfl) (by kernel_rfl) (by kernel_rfl)
      (OpenSpec.preRow_of_cond 8 hx (by kernel_rfl) (fun k hk => by cases hk) (by kernel_rfl) (laid_met os))) ?_
  intro W base args ds gs before hval hW _ _ hsz hL _ _
  exact contract H enc W base args ds gs before hval hW hL hsz
theorem said : Rows.HierOrderSaid :=
  OpenClaim.holds_of_cond 9 Tryd.f9 rfl rfl rfl rfl rfl rfl rfl ⟨rfl, rfl, rfl, rfl, rfl⟩ rfl rfl rfl rfl rfl (by kernel_rfl) Tryd.func9 (by kernel_rfl)
    (of_decide_eq_true (by kernel_rfl)) (by unfold Func.isWrapper; first | (rw [if_pos (by decide +kernel)]; kernel_rfl) | (rw [if_neg (by decide +kernel)]; exact ⟨rfl, rfl⟩))
    (fun os started H enc _ F => by rw [OpenClaim.pre_eq_preRow]; exact lifted os started H enc F)
theorem plain (f : FuncId) (fn : Func) (hf : Tryd.pinned.checked.prog.funcNamed "atlas/atlaslaw11.HierOrder" = some f) (hfn : Tryd.pinned.checked.prog.funcs[f]? = some fn) :
    false = Tryd.pinned.checked.prog.looks [] ∧ ∀ (j : Nat) t, fn.params[j]? = some t → Tryd.pinned.checked.prog.wantsStandIn t = false := by
  obtain rfl : f = 9 := Option.some.inj ((show Tryd.prog.funcNamed "atlas/atlaslaw11.HierOrder" = some 9 by kernel_rfl).symm.trans hf) |>.symm
  obtain rfl : fn = Tryd.f9 := (Option.some.inj (Tryd.func9.symm.trans hfn)).symm
  refine ⟨by kernel_rfl, fun j t ht => ?_⟩
  rw [Tryd.params9] at ht
  have hm := Array.mem_of_getElem? ht
  simp only [List.mem_toArray, List.mem_cons, List.not_mem_nil, or_false] at hm
  rcases hm with rfl | rfl | rfl
  all_goals first | exact (show Tryd.prog.wantsStandIn _ = false by kernel_rfl)
theorem card : Rows.HierOrderCardSaid :=
  Claim7.holds_tied_plain_at .later [] _ _ _ _ said (fun _ h => by cases h) (by kernel_rfl) (fun _ h => by cases h) hierOrder_row_tie rfl ⟨rfl, rfl⟩ (by kernel_rfl) rfl plain (by kernel_rfl)
#print axioms card
end Go.Proofs.YtngcpcgioophcaaDoor.hierOrder
