/- Plain words on rows of places: where a block is put, what a dropping leaves, how many places are full. No program is in sight here. -/
import Derived.Test.YtngcpcgioophcaaDoorPlain
namespace Go.Proofs.YtngcpcgioophcaaDoor

def lenL (xs : List Slot) : Nat := (xs.filter (·.full)).length
theorem lenL_snoc (xs : List Slot) (s : Slot) : lenL (xs ++ [s]) = lenL xs + (if s.full = true then 1 else 0) := by
  unfold lenL; rw [List.filter_append, List.length_append]; cases h : s.full <;> simp [h]
theorem lenL_le (xs : List Slot) : lenL xs ≤ xs.length := List.length_filter_le _ _
/-- a dropping: a place, and how many it empties -/
def hit (d : Tlbi) (s : Slot) : Bool := s.full && takesB d s.blk
def drop1 (d : Tlbi) (s : Slot) : Slot := if hit d s = true then zslot else s
def dropRow (d : Tlbi) (xs : List Slot) : List Slot := xs.map (drop1 d)
def dropN (d : Tlbi) (xs : List Slot) : Nat := (xs.filter (hit d)).length
theorem dropN_snoc (d : Tlbi) (xs : List Slot) (s : Slot) : dropN d (xs ++ [s]) = dropN d xs + (if hit d s = true then 1 else 0) := by
  unfold dropN; rw [List.filter_append, List.length_append]; cases h : hit d s <;> simp [h]
theorem dropN_le (d : Tlbi) (xs : List Slot) : dropN d xs ≤ xs.length := List.length_filter_le _ _
/-- the row when k places have been gone through -/
def dropTo (d : Tlbi) (k : Nat) (xs : List Slot) : List Slot := (xs.take k).map (drop1 d) ++ xs.drop k
theorem dropTo_len (d : Tlbi) (k : Nat) (xs : List Slot) (h : k ≤ xs.length) : (dropTo d k xs).length = xs.length := by simp [dropTo]; omega
theorem dropTo_zero (d : Tlbi) (xs : List Slot) : dropTo d 0 xs = xs := by simp [dropTo]
theorem dropTo_all (d : Tlbi) (xs : List Slot) : dropTo d xs.length xs = dropRow d xs := by simp [dropTo, dropRow]
theorem dropTo_at (d : Tlbi) (k : Nat) (xs : List Slot) (h : k < xs.length) : (dropTo d k xs)[k]? = xs[k]? := by
  unfold dropTo
  rw [List.getElem?_append_right (by simp; omega)]
  simp; congr 1; omega
theorem dropTo_succ (d : Tlbi) (k : Nat) (xs : List Slot) (s : Slot) (h : xs[k]? = some s) : dropTo d (k + 1) xs = (dropTo d k xs).set k (drop1 d s) := by
  obtain ⟨hl, he⟩ := List.getElem?_eq_some_iff.1 h
  unfold dropTo
  rw [take_snoc xs k s h, List.map_append, List.set_append_right _ _ (by simp; omega)]
  have e : k - (List.map (drop1 d) (xs.take k)).length = 0 := by simp; omega
  rw [e, List.drop_eq_getElem_cons hl]
  simp only [List.map_cons, List.map_nil, List.set_cons_zero, List.append_assoc, List.cons_append, List.nil_append]
theorem dropTo_same (d : Tlbi) (k : Nat) (xs : List Slot) (s : Slot) (h : xs[k]? = some s) (hh : hit d s = false) : dropTo d (k + 1) xs = dropTo d k xs := by
  rw [dropTo_succ d k xs s h]
  have hl := (List.getElem?_eq_some_iff.1 h).1
  have e := dropTo_at d k xs hl
  rw [h] at e
  obtain ⟨hl2, he⟩ := List.getElem?_eq_some_iff.1 e
  have : drop1 d s = s := by unfold drop1; simp [hh]
  rw [this, ← he, List.set_getElem_self]
theorem zslot_ok : zslot.blk.Ok := zblk_ok
theorem dropRow_ok (d : Tlbi) (xs : List Slot) (h : RowOk xs) : RowOk (dropRow d xs) := by
  intro s hs
  obtain ⟨t, ht, rfl⟩ := List.mem_map.1 hs
  unfold drop1
  split
  · exact zslot_ok
  · exact h t ht
theorem set_ok (xs : List Slot) (i : Nat) (s : Slot) (h : RowOk xs) (hs : s.blk.Ok) : RowOk (xs.set i s) := by
  intro t ht
  rcases List.mem_or_eq_of_mem_set ht with h1 | h1
  · exact h t h1
  · rw [h1]; exact hs
/-- the first place that holds the block; the first empty one -/
def same (b : Blk) (s : Slot) : Bool := s.full && s.blk.eqB b
def findB (b : Blk) (xs : List Slot) : Option Nat := xs.findIdx? (same b)
def emptyI (xs : List Slot) : Option Nat := xs.findIdx? (fun s => !s.full)
theorem find_snoc {p : Slot → Bool} (xs : List Slot) (s : Slot) : (xs ++ [s]).findIdx? p = (xs.findIdx? p).or (if p s = true then some xs.length else none) := by
  rw [List.findIdx?_append]
  congr 1
  cases h : p s <;> simp [List.findIdx?_cons, h]
def putI (xs : List Slot) (pick : Int) : Nat := match emptyI xs with | some i => i | none => (pick % xs.length).toNat
def putAt (b : Blk) (xs : List Slot) (pick : Int) : Nat := match findB b xs with | some i => i | none => putI xs pick
def putRow (b : Blk) (xs : List Slot) (pick : Int) : List Slot := match findB b xs with | some _ => xs | none => xs.set (putI xs pick) ⟨true, b⟩
theorem emptyI_lt (xs : List Slot) (i : Nat) (h : emptyI xs = some i) : i < xs.length := by
  unfold emptyI at h
  exact (List.findIdx?_eq_some_iff_findIdx_eq.1 h).1
theorem putI_lt (xs : List Slot) (pick : Int) (h : 0 < xs.length) : putI xs pick < xs.length := by
  unfold putI
  split
  · rename_i i hi; exact emptyI_lt xs i hi
  · have := Int.emod_nonneg pick (show (xs.length : Int) ≠ 0 by omega)
    have := Int.emod_lt_of_pos pick (show (0 : Int) < xs.length by omega)
    omega
theorem putRow_len (b : Blk) (xs : List Slot) (pick : Int) : (putRow b xs pick).length = xs.length := by unfold putRow; split <;> simp
theorem putRow_ok (b : Blk) (xs : List Slot) (pick : Int) (h : RowOk xs) (hb : b.Ok) : RowOk (putRow b xs pick) := by
  unfold putRow; split
  · exact h
  · exact set_ok _ _ _ h hb
def newRow (n : Nat) : List Slot := List.replicate n zslot
theorem newRow_ok (n : Nat) : RowOk (newRow n) := fun s hs => by rw [List.eq_of_mem_replicate hs]; exact zslot_ok
end Go.Proofs.YtngcpcgioophcaaDoor
