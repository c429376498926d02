/- Plain words of the layers desc, tlb and hier: what a block is, which are right, over what they lie, what takes them; lists of places. No program is in sight here. -/
import Derived.RowKit
namespace Go.Proofs.YtngcpcgioophcaaDoor

structure Blk where
  asid : Int
  size : Int
  va : Int
  pa : Int
  dom : Int
  ap : Int
  bits : Int
  ng : Bool
  xn : Bool
structure Slot where
  full : Bool
  blk : Blk
structure Tlbi where
  kind : Int
  va : Int
  asid : Int
def Blk.eqB (a b : Blk) : Bool := decide (a.asid = b.asid) && decide (a.size = b.size) && decide (a.va = b.va) && decide (a.pa = b.pa) && decide (a.dom = b.dom) && decide (a.ap = b.ap) && decide (a.bits = b.bits) && (a.ng == b.ng) && (a.xn == b.xn)
theorem Blk.eqB_iff (a b : Blk) : a.eqB b = true ↔ a = b := by
  constructor
  · intro h
    cases a; cases b
    simp only [Blk.eqB, Bool.and_eq_true, decide_eq_true_eq, beq_iff_eq] at h
    obtain ⟨⟨⟨⟨⟨⟨⟨⟨rfl, rfl⟩, rfl⟩, rfl⟩, rfl⟩, rfl⟩, rfl⟩, rfl⟩, rfl⟩ := h
    rfl
  · rintro rfl; simp [Blk.eqB]
theorem Blk.eqB_self (a : Blk) : a.eqB a = true := (Blk.eqB_iff a a).2 rfl
theorem Blk.eqB_ne {a b : Blk} (h : a ≠ b) : a.eqB b = false := by
  rcases hb : a.eqB b with _ | _
  · rfl
  · exact absurd ((Blk.eqB_iff a b).1 hb) h
def zblk : Blk := ⟨0, 0, 0, 0, 0, 0, 0, false, false⟩
def zslot : Slot := ⟨false, zblk⟩
/-- each field is of its kind -/
structure Blk.Ok (b : Blk) : Prop where
  asid0 : -9223372036854775808 ≤ b.asid
  asid1 : b.asid ≤ 9223372036854775807
  size0 : -9223372036854775808 ≤ b.size
  size1 : b.size ≤ 9223372036854775807
  va0 : 0 ≤ b.va
  va1 : b.va ≤ 4294967295
  pa0 : 0 ≤ b.pa
  pa1 : b.pa < 18446744073709551616
  dom0 : -9223372036854775808 ≤ b.dom
  dom1 : b.dom ≤ 9223372036854775807
  ap0 : -9223372036854775808 ≤ b.ap
  ap1 : b.ap ≤ 9223372036854775807
  bits0 : 0 ≤ b.bits
  bits1 : b.bits ≤ 4294967295
theorem zblk_ok : zblk.Ok := by constructor <;> simp [zblk]
def pw (n : Int) : Int := if n = 12 then 4096 else if n = 16 then 65536 else if n = 20 then 1048576 else if n = 24 then 16777216 else if n = 32 then 4294967296 else if n = 40 then 1099511627776 else 1
def bytesOf (s : Int) : Int := if s = 1 then 4096 else if s = 2 then 65536 else if s = 3 then 1048576 else if s = 4 then 16777216 else 0
def shiftOf (s : Int) : Int := if s = 1 then 12 else if s = 2 then 16 else if s = 3 then 20 else if s = 4 then 24 else 0
def sizedB (s : Int) : Bool := decide (1 ≤ s) && decide (s ≤ 4)
def placeB (v n top : Int) : Bool := decide (v % pw n = 0) && decide (v < pw top)
def domB (d : Int) : Bool := decide (0 ≤ d) && decide (d ≤ 15)
def leafB (ap bits : Int) : Bool := decide (0 ≤ ap) && decide (ap ≤ 7) && decide (bits ≤ 63)
def blockB (base ap bits size : Int) : Bool := placeB base (shiftOf size) (if size = 4 then 40 else 32) && leafB ap bits
def transB (b : Blk) : Bool := sizedB b.size && placeB b.va (shiftOf b.size) 32 && domB b.dom && !(decide (b.size = 4) && decide (b.dom ≠ 0)) && blockB b.pa b.ap b.bits b.size
def rightB (b : Blk) : Bool := if b.ng = true then transB b && decide (0 ≤ b.asid) && decide (b.asid ≤ 255) else transB b && decide (b.asid = -1)
def coversB (VA s va : Int) : Bool := decide (VA ≤ va) && decide ((va - VA) % 4294967296 < bytesOf s)
def overB (b : Blk) (va asid : Int) : Bool := rightB b && coversB b.va b.size va && (decide (b.asid = asid) || decide (b.asid = -1))
def dropB (d : Tlbi) : Bool := if d.kind = 1 then decide (d.va = 0) && decide (d.asid = 0) else if d.kind = 2 then decide (0 ≤ d.asid) && decide (d.asid ≤ 255) else if d.kind = 3 then decide (d.va = 0) && (decide (0 ≤ d.asid) && decide (d.asid ≤ 255)) else if d.kind = 4 then decide (d.asid = 0) else false
def takesB (d : Tlbi) (b : Blk) : Bool := dropB d && rightB b && (if d.kind = 1 then true else if d.kind = 2 then overB b d.va d.asid else if d.kind = 3 then decide (b.asid = d.asid) else coversB b.va b.size d.va)
/-- what Look goes through the places with: the last block that matches, and how many do -/
def lookS (va asid : Int) (p : Blk × Nat) (s : Slot) : Blk × Nat := if (s.full && overB s.blk va asid) = true then (s.blk, p.2 + 1) else p
def lookF (va asid : Int) (xs : List Slot) : Blk × Nat := xs.foldl (lookS va asid) (zblk, 0)
def lookB (va asid : Int) (xs : List Slot) : Blk := if (lookF va asid xs).2 = 1 then (lookF va asid xs).1 else zblk
def lookN (va asid : Int) (xs : List Slot) : Nat := (lookF va asid xs).2
def RowOk (xs : List Slot) : Prop := ∀ s ∈ xs, s.blk.Ok
theorem lookF_snoc (va asid : Int) (xs : List Slot) (s : Slot) : lookF va asid (xs ++ [s]) = lookS va asid (lookF va asid xs) s := by simp [lookF]
theorem lookF_le (va asid : Int) (xs : List Slot) : (lookF va asid xs).2 ≤ xs.length := by
  have h : ∀ (xs : List Slot) p, (xs.foldl (lookS va asid) p).2 ≤ p.2 + xs.length := by
    intro xs
    induction xs with
    | nil => intro p; simp
    | cons x xs ih =>
      intro p
      simp only [List.foldl_cons, List.length_cons]
      have h1 := ih (lookS va asid p x)
      have h2 : (lookS va asid p x).2 ≤ p.2 + 1 := by unfold lookS; split <;> simp
      omega
  have := h xs (zblk, 0)
  simpa [lookF] using this
theorem lookF_ok (va asid : Int) (xs : List Slot) (h : RowOk xs) : (lookF va asid xs).1.Ok := by
  have g : ∀ (xs : List Slot) p, RowOk xs → p.1.Ok → (xs.foldl (lookS va asid) p).1.Ok := by
    intro xs
    induction xs with
    | nil => intro p _ hp; exact hp
    | cons x xs ih =>
      intro p hx hp
      refine ih _ (fun s hs => hx s (List.mem_cons_of_mem _ hs)) ?_
      unfold lookS
      split
      · exact hx x (List.mem_cons_self)
      · exact hp
  exact g xs _ h zblk_ok
theorem take_snoc {α : Type} (xs : List α) (k : Nat) (s : α) (h : xs[k]? = some s) : xs.take (k + 1) = xs.take k ++ [s] := by
  obtain ⟨hl, he⟩ := List.getElem?_eq_some_iff.1 h
  rw [List.take_succ_eq_append_getElem hl, he]
end Go.Proofs.YtngcpcgioophcaaDoor
