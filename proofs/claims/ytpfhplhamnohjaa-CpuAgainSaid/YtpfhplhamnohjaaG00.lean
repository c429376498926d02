/- The processor's layers 18 to 20 over plain data: what the program's functions come to, one Lean function for each. No program is in sight here. Words on memory: a block that is known whole, what a call has written. No program is in sight here. A region that draws its order, whose head reads and calls what makes memory, and whose tail is forced: one walk of the text's order serves every order. No program is in sight here. A region that draws its order, whose head may write, and whose tail is forced: the head is walked in a class of worlds that must hold behind each of its operations, the tail as a list. No program is in sight here. -/
import Derived.RowKit
import Derived.Test.YtpfhplhamnohjaaChecked
import Derived.WalkKit
import Derived.WalkSpells
import Derived.Deep.QuietTactic
import Derived.BigQuiet
import Derived.Deep.RegionHeld3
import Derived.Deep.MidRow
import Derived.Deep.DeepCutAuto
import Derived.Deep.CutBlock
import Derived.StillTailTactics
import Derived.Laws.EntriesVeiled
import Derived.Laws.StructEq
import Derived.Outline
import Derived.Lib.Hide
namespace Go.Proofs.Ytpfhplhamnohjaa
open Go.RowKit

/-- bits hi to lo of a word -/
def fld (w : Int) (hi lo : Nat) : Int := w / 2 ^ lo % 2 ^ (hi - lo + 1)
def bt (w : Int) (i : Nat) : Bool := decide (w / 2 ^ i % 2 = 1)
structure Ins where
  cond : Int
  op : Int
  s : Bool
  form : Int
  rd : Int
  rn : Int
  rm : Int
  rs : Int
  ra : Int
  imm : Int
  shift : Int
  amount : Int
  pre : Bool
  up : Bool
  write : Bool
  list : Int
  crn : Int
  op1 : Int
  crm : Int
  op2 : Int
def zIns : Ins := ⟨0, 0, false, 0, 0, 0, 0, 0, 0, 0, 0, 0, false, false, false, 0, 0, 0, 0, 0⟩
def comparesB (op : Int) : Bool := decide (9 ≤ op) && decide (op ≤ 12)
def movesB (op : Int) : Bool := decide (op = 14) || decide (op = 16)
def wideB (op : Int) : Bool := decide (21 ≤ op) && decide (op ≤ 24)
def smallI (n : Int) : Int := if n = 2 then 29 else if n = 3 then 30 else if n = 6 then 27 else if n = 7 then 28 else 0
def mk (w m v : Int) : Bool := bits .and .u32 w m == v
def immI (w : Int) (hi lo : Nat) : Int := bits .or .i64 (wrap64 (fld w hi lo * 16)) (fld w 3 0) % 4294967296
def brI (w : Int) : Int := wrap32 (w * 256 % 4294967296) / 64 % 4294967296
/-- isa.data -/
def dataI (w : Int) (i : Ins) : Ins :=
  let j := { i with op := fld w 24 21 + 1, s := bt w 20, rn := fld w 19 16, rd := fld w 15 12 }
  if (comparesB j.op && (!j.s || decide (j.rd ≠ 0))) || (movesB j.op && decide (j.rn ≠ 0)) then zIns else j
def productOp (n : Int) : Int := if n = 0 then 19 else if n = 1 then 20 else if n = 4 then 21 else if n = 5 then 22 else if n = 6 then 23 else if n = 7 then 24 else 0
def productI (w : Int) (i : Ins) : Ins :=
  if fld w 27 24 ≠ 0 then zIns else
  let j := { i with op := productOp (fld w 23 21), s := bt w 20, rd := fld w 19 16, ra := fld w 15 12, rs := fld w 11 8, rm := fld w 3 0 }
  if j.op = 0 ∨ (j.op = 19 ∧ j.ra ≠ 0) then zIns else j
def halfOp (load : Bool) (n : Int) : Int :=
  if !load && decide (n = 1) then 36 else if load && decide (0 < n) then (if n = 1 then 35 else if n = 2 then 37 else 38) else 0
def halvesI (w : Int) (i : Ins) : Ins :=
  let j := { i with op := halfOp (bt w 20) (fld w 6 5), pre := bt w 24, up := bt w 23, write := bt w 21, rn := fld w 19 16, rd := fld w 15 12 }
  if bt w 22 then (let k := { j with form := 1, imm := immI w 11 8 }; if k.op = 0 then zIns else k)
  else (let k := { j with form := 2, rm := fld w 3 0 }; if fld w 11 8 ≠ 0 then zIns else if k.op = 0 then zIns else k)
def specialI (w : Int) (i : Ins) : Ins :=
  if mk w 0x0FB00FF0 0x01000000 && decide (fld w 19 16 = 15) && decide (fld w 3 0 = 0) then { i with op := 47, s := bt w 22, rd := fld w 15 12 }
  else if mk w 0x0FB0FFF0 0x0120F000 then { i with op := 48, s := bt w 22, form := 2, amount := fld w 19 16, rm := fld w 3 0 }
  else if mk w 0x0FFFFFF0 0x012FFF10 then { i with op := 43, rm := fld w 3 0 }
  else if mk w 0x0FFFFFF0 0x012FFF30 then { i with op := 44, rm := fld w 3 0 }
  else if mk w 0x0FF000F0 0x01200070 then { i with op := 46, imm := immI w 19 8 }
  else if mk w 0x0FFF0FF0 0x016F0F10 then { i with op := 25, rd := fld w 15 12, rm := fld w 3 0 }
  else zIns
def firstI (w : Int) (i : Ins) : Ins :=
  if fld w 7 4 = 9 then productI w i
  else if bt w 7 && bt w 4 then halvesI w i
  else if decide (fld w 24 23 = 2) && !bt w 20 then specialI w i
  else
    let j := { i with rm := fld w 3 0, shift := fld w 6 5 }
    if bt w 4 then dataI w { j with form := 3, rs := fld w 11 8 } else dataI w { j with form := 2, amount := fld w 11 7 }
def secondI (w : Int) (i : Ins) : Ins :=
  let j := { i with imm := fld w 11 0 }
  if decide (fld w 24 23 ≠ 2) || bt w 20 then dataI w { j with form := 1 }
  else if fld w 22 20 = 0 then { j with op := 17, rd := fld w 15 12, imm := bits .or .u32 (fld w 11 0) (fld w 19 16 * 4096) }
  else if fld w 22 20 = 4 then { j with op := 18, rd := fld w 15 12, imm := bits .or .u32 (fld w 11 0) (fld w 19 16 * 4096) }
  else if mk w 0x0FFFFFFF 0x0320F000 then { j with op := 51 }
  else if mk w 0x0FFFFFFF 0x0320F003 then { j with op := 52, imm := 0 }
  else if fld w 15 12 = 15 then { j with op := 48, s := bt w 22, form := 1, amount := fld w 19 16 }
  else zIns
def singleOp (n : Int) : Int := if n = 0 then 32 else if n = 1 then 31 else if n = 2 then 34 else 33
def singleI (w : Int) (i : Ins) : Ins :=
  let j := { i with op := singleOp (fld w 22 22 * 2 + fld w 20 20), pre := bt w 24, up := bt w 23, write := bt w 21, rn := fld w 19 16, rd := fld w 15 12 }
  if !bt w 25 then { j with form := 1, imm := fld w 11 0 } else { j with form := 2, amount := fld w 11 7, shift := fld w 6 5, rm := fld w 3 0 }
def mediaI (w : Int) (i : Ins) : Ins :=
  let j := { i with rd := fld w 15 12, rm := fld w 3 0 }
  if mk w 0x0FFF0FF0 0x06BF0F30 then { j with op := 26 }
  else if mk w 0x0F8F03F0 0x068F0070 && decide (fld w 19 16 = 15) && decide (smallI (fld w 22 20) ≠ 0) then { j with op := smallI (fld w 22 20), amount := fld w 11 10 }
  else zIns
def restI (w : Int) (i : Ins) : Ins :=
  let k := fld w 27 24
  if k = 8 ∨ k = 9 then
    let j := { i with op := if bt w 20 then 39 else 40, pre := bt w 24, up := bt w 23, write := bt w 21, rn := fld w 19 16, list := w % 65536 }
    if bt w 22 then zIns else j
  else if k = 10 ∨ k = 11 then { i with op := 41 + fld w 24 24, imm := brI w }
  else if k = 14 then
    if !bt w 4 || decide (fld w 11 8 ≠ 15) then zIns else { i with op := 49 + fld w 20 20, rd := fld w 15 12, crn := fld w 19 16, op1 := fld w 23 21, crm := fld w 3 0, op2 := fld w 7 5 }
  else if k = 15 then { i with op := 45, imm := fld w 23 0 }
  else zIns
def saysI (w : Int) : Ins :=
  let i := { zIns with cond := fld w 31 28 }
  let k := fld w 27 25
  if k = 0 then firstI w i else if k = 1 then secondI w i
  else if k = 3 then (if bt w 4 then mediaI w i else singleI w i)
  else if k = 2 then singleI w i else restI w i
/-- isa.may -/
def mayB (i : Ins) : Bool :=
  if i.cond = 15 ∨ i.op = 0 then false
  else if i.op ≤ 16 then decide (i.form ≠ 3) || !(decide (i.rd = 15) || decide (i.rn = 15) || decide (i.rm = 15) || decide (i.rs = 15))
  else if i.op ≤ 30 then !(decide (i.rd = 15) || decide (i.rm = 15) || decide (i.rs = 15) || decide (i.ra = 15)) && (!wideB i.op || decide (i.rd ≠ i.ra))
  else if i.op ≤ 38 then
    (let beside := i.write || !i.pre
     if (i.write && !i.pre) || (beside && (decide (i.rn = 15) || decide (i.rn = i.rd))) || (decide (i.form = 2) && decide (i.rm = 15)) then false
     else decide (i.rd ≠ 15) || decide (i.op = 31))
  else if i.op ≤ 40 then decide (i.list ≠ 0) && decide (i.rn ≠ 15) && !(i.write && decide (i.list / 2 ^ i.rn.toNat % 2 = 1)) && !(decide (i.op = 40) && decide (i.list / 32768 = 1))
  else if i.op = 43 ∨ i.op = 44 then decide (i.rm ≠ 15)
  else if i.op = 47 ∨ i.op = 49 ∨ i.op = 50 then decide (i.rd ≠ 15)
  else if i.op = 48 then decide (i.amount ≠ 0) && decide (i.rm ≠ 15)
  else if i.op = 46 then decide (i.cond = 14)
  else true
def decodeI (w : Int) : Ins × Bool := if mayB (saysI w) then (saysI w, true) else (zIns, false)
structure Flg where
  n : Bool
  z : Bool
  c : Bool
  v : Bool
def flagsI (w : Int) : Flg := ⟨bt w 31, bt w 30, bt w 29, bt w 28⟩
def passedB (cond : Int) (f : Flg) : Bool :=
  if cond = 14 then true
  else if 0 ≤ cond ∧ cond ≤ 13 then
    (let h := if cond ≤ 1 then f.z else if cond ≤ 3 then f.c else if cond ≤ 5 then f.n else if cond ≤ 7 then f.v else if cond ≤ 9 then f.c && !f.z else if cond ≤ 11 then f.n == f.v else !f.z && f.n == f.v
     h == decide (cond % 2 = 0))
  else false
/-- a state: Low 0 to 12, SP 13 to 17, LR 18 to 22, SPSR 23 to 27, PC 28, CPSR 29 -/
abbrev Sta := Nat → Int
def set (s : Sta) (i : Nat) (v : Int) : Sta := fun j => if j = i then v else s j
def bankO (m : Int) : Option Nat := if m = 16 ∨ m = 31 then some 0 else if m = 19 then some 1 else if m = 23 then some 2 else if m = 27 then some 3 else if m = 18 then some 4 else none
def bankN (w : Int) : Nat := (bankO (w % 32)).getD 0
/-- the cell of a register of a state's mode -/
def regI (s : Sta) (n : Int) : Nat := if n < 13 then n.toNat else if n = 13 then 13 + bankN (s 29) else if n = 14 then 18 + bankN (s 29) else 28
def keptB (w : Int) : Bool := decide (bits .andNot .u32 w 4026531999 = 0)
/-- may it be loaded? -/
def isB (s : Sta) : Bool := (bankO (s 29 % 32)).isSome && decide (bits .and .u32 (s 28) 3 = 0) && keptB (s 29) && decide (s 23 = 0) && keptB (s 23) && keptB (s 24) && keptB (s 25) && keptB (s 26) && keptB (s 27)
def enterS (s : Sta) (m back vector : Int) : Sta :=
  let n := (bankO m).getD 0
  set (set (set (set s (23 + n) (s 29)) (18 + n) back) 29 (bits .or .u32 (bits .or .u32 (bits .andNot .u32 (s 29) 31) m) 128)) 28 vector
def backS (s : Sta) (at_ : Int) : Sta × Bool :=
  let n := bankN (s 29)
  if n = 0 ∨ (bankO (s (23 + n) % 32)).isNone then (s, false) else (set (set s 29 (s (23 + n))) 28 (bits .andNot .u32 at_ 3), true)
end Go.Proofs.Ytpfhplhamnohjaa
namespace Go.Proofs.Ytpfhplhamnohjaa
open Go.RowKit

theorem bcell {W w1 : World} (hb : Below W.heap.size W w1) : (∀ b o, b < W.heap.size → w1.cell? ⟨b, o, none⟩ = W.cell? ⟨b, o, none⟩) ∧ (∀ b o, b < W.heap.size → w1.frozen? ⟨b, o, none⟩ = W.frozen? ⟨b, o, none⟩) :=
  ⟨fun b o h => hb.cell (p := ⟨b, o, none⟩) h, fun b o h => hb.frozen (p := ⟨b, o, none⟩) h⟩
theorem bdrewN {B : Nat} {w W : World} (h : Below B w W) (n : Nat) : Below B w (W.drewN n) := ⟨h.os, h.tape, h.output, h.size, h.block⟩
theorem bdrew {B : Nat} {w W : World} (h : Below B w W) : Below B w W.drew := ⟨h.os, h.tape, h.output, h.size, h.block⟩
theorem bnext {B : Nat} {W w' w1 : World} (h : Below B W w') (k : Below w'.heap.size w' w1) (hB : B ≤ W.heap.size) : Below B W w1 :=
  h.trans ⟨k.os, k.tape, k.output, k.size, fun i hi => k.block i (Nat.lt_of_lt_of_le hi (Nat.le_trans hB h.size))⟩
theorem bbox {w w1 : World} {o : Obj} (k : Below (w.heap.size + 1) (w.alloc o) w1) : Below w.heap.size w w1 :=
  ((Below.refl w.heap.size w).alloc (Nat.le_refl _) o).trans (k.mono (by omega))
/-- a block that is known whole -/
def Blok (w : World) (g : Nat) (t : TypeId) (cs : List Value) : Prop := w.heap[g]? = some (.cells cs.toArray t (0, 0))
section
variable {w w' : World} {g : Nat} {t : TypeId} {cs : List Value}
theorem Blok.lt (h : Blok w g t cs) : g < w.heap.size := by
  rcases Nat.lt_or_ge g w.heap.size with hlt | hge
  · exact hlt
  · unfold Blok at h; rw [Array.getElem?_eq_none hge] at h; cases h
theorem Blok.cell (h : Blok w g t cs) (i : Nat) : w.cell? ⟨g, i, none⟩ = cs[i]? := by
  have := cell_of_row w g i cs.toArray t (0, 0) h
  simpa using this
theorem Blok.frozen (h : Blok w g t cs) (i : Nat) : w.frozen? ⟨g, i, none⟩ = false := by
  unfold Blok at h
  simp [World.frozen?, h]
theorem Blok.below {B : Nat} (h : Blok w g t cs) (hb : Below B w w') (hg : g < B) : Blok w' g t cs := (hb.block g hg).trans h
theorem Blok.grown {row : Option Nat} (h : Blok w g t cs) (hb : w.grownBy w' row) (hg : some g ≠ row) : Blok w' g t cs := (hb.block g h.lt hg).trans h
theorem Blok.drewN (h : Blok w g t cs) (n : Nat) : Blok (w.drewN n) g t cs := h
theorem Blok.alloc (h : Blok w g t cs) (o : Obj) : Blok (w.alloc o) g t cs := (Below.heap_alloc w o g h.lt).trans h
theorem Blok.set_ (h : Blok w g t cs) (i : Nat) (u : Value) : Blok (w.setCell ⟨g, i, none⟩ u) g t (cs.set i u) := by
  unfold Blok at h ⊢
  simp [World.setCell, Array.getElem?_modify, h]
theorem Blok.far (h : Blok w g t cs) {p : Addr} (hp : g ≠ p.block) (u : Value) : Blok (w.setCell p u) g t cs := (Below.heap_setCell w p u g hp).trans h
end
theorem Blok.setCells (vs : List Value) : ∀ {w : World} {g : Nat} {t : TypeId} {cs : List Value} (o : Nat), Blok w g t cs → o + vs.length ≤ cs.length → Blok (w.setCells g o vs) g t (cs.take o ++ vs ++ cs.drop (o + vs.length)) := by
  induction vs with
  | nil => intro w g t cs o h hl; simpa [World.setCells] using h
  | cons v vs ih =>
    intro w g t cs o h hl
    simp only [List.length_cons] at hl
    have h1 := ih (o + 1) (h.set_ o v) (by simp; omega)
    have e : (cs.set o v).take (o + 1) ++ vs ++ (cs.set o v).drop (o + 1 + vs.length) = cs.take o ++ (v :: vs) ++ cs.drop (o + (v :: vs).length) := by
      have hlt : o < cs.length := by omega
      rw [List.take_set, List.drop_set_of_lt (by omega), List.take_succ_eq_append_getElem hlt]
      have : (cs.take o ++ [cs[o]]).set o v = cs.take o ++ [v] := by
        rw [List.set_append_right _ _ (by simp; omega)]
        have : o - (cs.take o).length = 0 := by simp; omega
        rw [this]; rfl
      rw [this]
      simp only [List.append_assoc, List.cons_append, List.nil_append, List.length_cons]
      rw [Nat.add_assoc, Nat.add_comm 1 vs.length]
    rw [e] at h1
    exact h1
theorem grown_setCells (vs : List Value) : ∀ {w : World} {g : Nat} (o : Nat), w.grownBy (w.setCells g o vs) (some g) ∧ (w.setCells g o vs).heap.size = w.heap.size := by
  induction vs with
  | nil => intro w g o; exact ⟨World.grownBy.refl w _, rfl⟩
  | cons v vs ih =>
    intro w g o
    obtain ⟨h, hz⟩ := ih (w := w.setCell ⟨g, o, none⟩ v) (g := g) (o + 1)
    have hz0 : (w.setCell ⟨g, o, none⟩ v).heap.size = w.heap.size := by simp [World.setCell]
    refine ⟨⟨h.os, h.tape, h.output, Nat.le_trans (Nat.le_of_eq hz0.symm) h.size, fun i hi hne => ?_⟩, hz.trans hz0⟩
    exact (h.block i (by omega) hne).trans (Below.heap_setCell w _ v i (fun e => hne (by rw [e])))
/-- A STORE OF SEVERAL CELLS into the middle of a block that is known whole. -/
theorem wpList_store_blok {P : Program} {ops : Array Oper} {rest : List Oper} {op : Oper} {a : Act} {w : World} {Q : Exit → Act → World → Prop} (hgd : op.guard = none) (ty : TypeId) (x y : Operand) (ho : op.op = .store ty x y)
    (g o : Nat) (vs : Array Value) (hx : a.eval x = .pointer (some ⟨g, o, none⟩)) (hy : a.eval y = .agg vs) {t : TypeId} {cs : List Value} (hb : Blok w g t cs) (hl : o + vs.size ≤ cs.length)
    (hi : (P.info? ty).map (·.size) = some vs.size) (h1 : vs.toList.all (·.oneCell') = true)
    (h : ∀ w1, Blok w1 g t (cs.take o ++ vs.toList ++ cs.drop (o + vs.size)) → w.grownBy w1 (some g) → w1.heap.size = w.heap.size → wpList P ops Q rest (a.put op.dst undef) w1) : wpList P ops Q (op :: rest) a w := by
  refine wpList_store_mid hgd ty x y ho g o vs hx hy (fun j hj => ⟨?_, hb.frozen _⟩) hi (by rw [← Array.all_toList]; exact h1) ?_
  · rw [hb.cell, List.getElem?_eq_getElem (by omega)]; rfl
  · obtain ⟨h2, h3⟩ := grown_setCells (w := w) (g := g) vs.toList o
    exact h _ (by have := hb.setCells vs.toList o (by simpa using hl); simpa using this) h2 h3
/-- grown, and only old blocks of S written -/
structure GrownS (w w' : World) (S : Nat → Prop) : Prop where
  os : w'.os = w.os
  tape : w'.tape = w.tape
  output : w'.output = w.output
  size : w.heap.size ≤ w'.heap.size
  block : ∀ i, i < w.heap.size → ¬ S i → w'.heap[i]? = w.heap[i]?
section
variable {w w' w1 : World} {S : Nat → Prop}
theorem GrownS.refl (w : World) (S : Nat → Prop) : GrownS w w S := ⟨rfl, rfl, rfl, Nat.le_refl _, fun _ _ _ => rfl⟩
theorem GrownS.drew (w : World) (S : Nat → Prop) : GrownS w w.drew S := ⟨rfl, rfl, rfl, Nat.le_refl _, fun _ _ _ => rfl⟩
theorem GrownS.drewN (w : World) (S : Nat → Prop) (n : Nat) : GrownS w (w.drewN n) S := ⟨rfl, rfl, rfl, Nat.le_refl _, fun _ _ _ => rfl⟩
theorem GrownS.trans (h : GrownS w w' S) (k : GrownS w' w1 S) : GrownS w w1 S :=
  ⟨k.os.trans h.os, k.tape.trans h.tape, k.output.trans h.output, Nat.le_trans h.size k.size, fun i hi hn => (k.block i (Nat.lt_of_lt_of_le hi h.size) hn).trans (h.block i hi hn)⟩
theorem GrownS.ofBelow (k : Below w.heap.size w w') : GrownS w w' S := ⟨k.os, k.tape, k.output, k.size, fun i hi _ => k.block i hi⟩
theorem GrownS.below (h : GrownS w w' S) (k : Below w'.heap.size w' w1) : GrownS w w1 S := h.trans (GrownS.ofBelow k)
theorem GrownS.alloc (h : GrownS w w' S) (o : Obj) : GrownS w (w'.alloc o) S := h.below ((Below.refl _ _).alloc (Nat.le_refl _) o)
theorem GrownS.ofOne {g : Nat} (k : w.grownBy w' (some g)) (hg : S g) : GrownS w w' S := ⟨k.os, k.tape, k.output, k.size, fun i hi hn => k.block i hi (fun e => hn (by have := Option.some.inj e; rw [this]; exact hg))⟩
theorem GrownS.one {g : Nat} (h : GrownS w w' S) (k : w'.grownBy w1 (some g)) (hg : S g) : GrownS w w1 S := h.trans (GrownS.ofOne k hg)
/-- a write into a new block -/
theorem GrownS.new {g : Nat} (h : GrownS w w' S) (k : w'.grownBy w1 (some g)) (hg : w.heap.size ≤ g) : GrownS w w1 S :=
  ⟨k.os.trans h.os, k.tape.trans h.tape, k.output.trans h.output, Nat.le_trans h.size k.size, fun i hi hn => (k.block i (Nat.lt_of_lt_of_le hi h.size) (fun e => by have := Option.some.inj e; omega)).trans (h.block i hi hn)⟩
theorem GrownS.bel {B : Nat} (h : GrownS w w' S) (hB : B ≤ w.heap.size) (hS : ∀ i, S i → B ≤ i) : Below B w w' :=
  ⟨h.os, h.tape, h.output, h.size, fun i hi => h.block i (Nat.lt_of_lt_of_le hi hB) (fun hs => by have := hS i hs; omega)⟩
theorem GrownS.cell (h : GrownS w w' S) {b o : Nat} (hb : b < w.heap.size) (hn : ¬ S b) : w'.cell? ⟨b, o, none⟩ = w.cell? ⟨b, o, none⟩ := World.cell?_of_block (h.block b hb hn)
theorem GrownS.unbox {o : Obj} (k : GrownS (w.alloc o) w1 S) : GrownS w w1 S :=
  ⟨k.os, k.tape, k.output, Nat.le_trans (by simp) k.size, fun i hi hn => (k.block i (by simp; omega) hn).trans (Below.heap_alloc w o i hi)⟩
theorem Blok.gs {g : Nat} {t : TypeId} {cs : List Value} (h : Blok w g t cs) (hb : GrownS w w' S) (hg : ¬ S g) : Blok w' g t cs := (hb.block g h.lt hg).trans h
end
theorem gnext {W w' w1 : World} {r : Option Nat} (h : W.grownBy w' r) (k : Below w'.heap.size w' w1) : W.grownBy w1 r :=
  ⟨k.os.trans h.os, k.tape.trans h.tape, k.output.trans h.output, Nat.le_trans h.size k.size, fun i hi hne => (k.block i (Nat.lt_of_lt_of_le hi h.size)).trans (h.block i hi hne)⟩
theorem gtrans {W w' w1 : World} {r : Option Nat} (h : W.grownBy w' r) (k : w'.grownBy w1 r) : W.grownBy w1 r :=
  ⟨k.os.trans h.os, k.tape.trans h.tape, k.output.trans h.output, Nat.le_trans h.size k.size, fun i hi hne => (k.block i (Nat.lt_of_lt_of_le hi h.size) hne).trans (h.block i hi hne)⟩
theorem galloc {W w' : World} {r : Option Nat} (h : W.grownBy w' r) (o : Obj) : W.grownBy (w'.alloc o) r := gnext h ((Below.refl _ _).alloc (Nat.le_refl _) _)
theorem gcell {W w' : World} {r : Option Nat} (h : W.grownBy w' r) {b o : Nat} (hb : b < W.heap.size) (hr : r ≠ some b) : w'.cell? ⟨b, o, none⟩ = W.cell? ⟨b, o, none⟩ :=
  World.cell?_of_block (h.block b hb (fun e => hr e.symm))
theorem bthen {w w' w1 : World} (h : Below w.heap.size w w') (k : Below w'.heap.size w' w1) : Below w.heap.size w w1 := bnext h k (Nat.le_refl _)
theorem Blok.new (w : World) (t : TypeId) (cs : List Value) : Blok (w.alloc (.cells cs.toArray t)) w.heap.size t cs := heap_alloc_new w _
theorem grown_then {w wr w1 : World} {row : Option Nat} (h : Below w.heap.size w wr) (k : wr.grownBy w1 row) : w.grownBy w1 row :=
  ⟨k.os.trans h.os, k.tape.trans h.tape, k.output.trans h.output, Nat.le_trans h.size k.size, fun i hi hne => (k.block i (Nat.lt_of_lt_of_le hi h.size) hne).trans (h.block i hi)⟩
theorem grown_of {w wr : World} (h : Below w.heap.size w wr) (row : Option Nat) : w.grownBy wr row := grown_then h (World.grownBy.refl _ _)
theorem wp_region_tail {P : Program} {id : Nat} {Q : Exit → Act → World → Prop} {a : Act} {w : World} {l : List Oper} (n : Nat) (hm : P.follows .mixedOrders = true) (hB : Region.lexTailB .any l.toArray n = true)
    (h : wpStill P l.toArray w.drew (fun a' => wpList P l.toArray Q (l.drop n) a' w.drew) (l.take n) a) : (Code.region id l.toArray true).wp P Q a w := wp_region_still_tail n hm hB h
end Go.Proofs.Ytpfhplhamnohjaa
namespace Go.Proofs.Ytpfhplhamnohjaa
open Go.RowKit

section
variable {P : Program} {ops : Array Oper} {md : Region.Mode} {C : World → Prop}
/-- as long as the head lasts: whatever may come up is of the head, and quiet in the class -/
def headQ (P : Program) (md : Region.Mode) (ops : Array Oper) (C : World → Prop) (n : Nat) (L : Array Bool → Act → Prop) : Nat → Array Bool → Act → Prop
  | 0, listed, a => L listed a
  | k + 1, listed, a => Region.ready md ops listed ≠ [] ∧ ∀ i ∈ Region.ready md ops listed, i < n ∧ qOp P ops C i (headQ P md ops C n L k (listed.setIfInBounds i true)) a
theorem any_of_headQ {n m : Nat} {L : Array Bool → Act → Prop} {Q' : Exit → Act → World → Prop} (hL : ∀ listed a w, C w → L listed a → wpAny P md ops Q' m listed a w) :
    ∀ (k : Nat) (listed : Array Bool) (a : Act) (w : World), C w → headQ P md ops C n L k listed a → wpAny P md ops Q' (k + m) listed a w := by
  intro k
  induction k with
  | zero => intro listed a w hw h; rw [Nat.zero_add]; exact hL _ _ _ hw h
  | succ k ih =>
    intro listed a w hw h
    rw [Nat.add_right_comm]
    exact ⟨fun e => absurd e h.1, fun i hi => wpOp_of_qOp hw (fun a' w' hw' h' => ih _ a' w' hw' h') (h.2 i hi).2⟩
theorem headQ_take {n i : Nat} {oi : Oper} {v : Value} {L : Array Bool → Act → Prop} (hi : ops[i]? = some oi) (hsel : ∀ (j : Nat) (o : Oper) cs b, ops[j]? = some o → o.op ≠ .select cs b)
    (hs : Region.sinkB md ops n = true) (hc : Region.chainB md ops n = true) (hn : n < ops.size) (hin : i < n) (hend : ∀ listed a, L listed a → ∀ j ∈ Region.ready md ops listed, n ≤ j) :
    ∀ (k : Nat) (listed : Array Bool) (a : Act), HeadInv md ops n listed →
      (∀ j oj, ops[j]? = some oj → j ≠ i → listed.getD j true = false → (∀ e ∈ oj.after, Region.binds md e = true → e.on ≠ i) → oi.apart ops oj = true) →
      i ∈ Region.ready md ops listed → YieldsIn P ops C oi v a →
      headQ P md ops C n L k (listed.setIfInBounds i true) (a.put oi.dst v) → headQ P md ops C n L (k + 1) listed a := by
  intro k
  induction k with
  | zero =>
    intro listed a inv _ hr hy H
    refine ⟨fun e => (by rw [e] at hr; cases hr), fun j hj => ?_⟩
    have hjn : j < n := Nat.lt_of_not_le fun h => tail_waits hs hc hn inv _ i rfl hin (mem_ready.1 hr).1 j h hj
    by_cases hji : j = i
    · subst hji; exact ⟨hjn, hy.qOp hi H⟩
    · exact absurd (hend _ _ H j (ready_mono hj hji)) (by omega)
  | succ k ih =>
    intro listed a inv hfree hr hy H
    have hun := (mem_ready.1 hr).1
    refine ⟨fun e => (by rw [e] at hr; cases hr), fun j hj => ?_⟩
    have hjn : j < n := Nat.lt_of_not_le fun h => tail_waits hs hc hn inv _ i rfl hin hun j h hj
    refine ⟨hjn, ?_⟩
    by_cases hji : j = i
    · subst hji; exact hy.qOp hi H
    obtain ⟨hjun, oj, hoj, hall⟩ := mem_ready.1 hj
    have hnot : ∀ e ∈ oj.after, Region.binds md e = true → e.on ≠ i := fun e he hb heq => by
      have h1 := hall e he hb
      rw [heq, getD_both hun] at h1
      cases h1
    have h1 := (H.2 j (ready_mono hj hji)).2
    have h2 := qOp_put hoj (hfree j oj hoj hji hjun hnot) (fun cs b => hsel i oi cs b hi) (fun cs b => hsel j oj cs b hoj) hy h1
    refine qOp_mono (fun a' h3 => ih (listed.setIfInBounds j true) a' (inv.set hj hjn) ?_ (ready_mono hr (Ne.symm hji)) h3.1 ?_) h2
    · intro l ol hl hli hlun hno
      refine hfree l ol hl hli ?_ hno
      by_cases hjl : j = l
      · subst hjl; exact hjun
      · rwa [getD_set_ne true hjl] at hlun
    · rw [Array.setIfInBounds_comm _ _ hji]
      exact h3.2
theorem headQ_lex {n m : Nat} {Lq : Act → Prop} (hsel : Region.noSelect ops = true) (hs : Region.sinkB md ops n = true) (hc : Region.chainB md ops n = true) (hn : n < ops.size) :
    ∀ (l : List Oper) (k : Nat) (listed : Array Bool) (a : Act), (∀ j, j < l.length → l[j]? = ops[k + j]?) → k + l.length = n → HeadInv md ops n listed →
    Region.lexHead md ops m l.length k listed = true → wpQuiet P ops C Lq l a →
    headQ P md ops C n (fun listed' a' => Region.seqB md ops m n listed' = true ∧ Lq a') l.length listed a := by
  intro l
  induction l with
  | nil =>
    intro k listed a _ hk _ hB h
    obtain rfl : k = n := by simpa using hk
    exact ⟨by simpa [Region.lexHead] using hB, h⟩
  | cons o l ih =>
    intro k listed a hl hk inv hB h
    have h0 : ops[k]? = some o := by simpa using (hl 0 (by simp)).symm
    simp only [List.length_cons, Region.lexHead, Bool.and_eq_true] at hB
    obtain ⟨⟨hr, hf⟩, hB'⟩ := hB
    simp only [List.length_cons] at hk
    have hkn : k < n := by omega
    have hr' : k ∈ Region.ready md ops listed := by simpa using hr
    have hst : qOp P ops C k (wpQuiet P ops C Lq l) a := by unfold qOp; simp only [h0]; exact h
    obtain ⟨v, hy, hK⟩ := yieldsIn_of_qOp h0 hst
    exact headQ_take h0 (Region.noSelect_spec hsel) hs hc hn hkn (fun listed' a' hL => seqB_ready hL.1) l.length listed a inv (Region.free_spec h0 hf) hr' hy
      (ih (k + 1) _ _ (fun j hj => by have := hl (j + 1) (by simp; omega); simpa [Nat.add_assoc, Nat.add_comm 1 j] using this) (by omega) (inv.set hr' hkn) hB' hK)
theorem wp_region_quiet_tail {id : Nat} {Q : Exit → Act → World → Prop} {a : Act} {w : World} {l : List Oper} (n : Nat) (hm : P.follows .mixedOrders = true) (hB : Region.lexTailB .any l.toArray n = true) (hC : C w.drew)
    (h : wpQuiet P l.toArray C (fun a' => ∀ w', C w' → wpList P l.toArray Q (l.drop n) a' w') (l.take n) a) : (Code.region id l.toArray true).wp P Q a w := by
  simp only [Region.lexTailB, Bool.and_eq_true, decide_eq_true_eq] at hB
  obtain ⟨⟨⟨⟨hsel, hn⟩, hs⟩, hc⟩, hlex⟩ := hB
  have hn' : n < l.length := by simpa using hn
  have htl : (l.take n).length = n := by simp; omega
  have hdl : (l.drop n).length = l.toArray.size - n := by simp
  have inv : HeadInv .any l.toArray n (Array.replicate l.toArray.size false) :=
    ⟨by simp, fun j oj _ hl => (by rw [getD_replicate_false] at hl; cases hl), fun t _ ht => getD_in (by simpa using ht) (getD_replicate_false _ _)⟩
  have H := headQ_lex (md := .any) (m := l.toArray.size - n) hsel hs hc hn (l.take n) 0 _ a (fun j hj => by rw [htl] at hj; simp [hj]) (by simpa using htl) inv (by rw [htl]; exact hlex) h
  refine wp_region_any hm ?_
  have := any_of_headQ (Q' := Q) (m := l.toArray.size - n) (fun listed a' w' hw' hL => by
    have := wpAny_of_seq (md := .any) (Q' := Q) (l.drop n) n listed a' w' (fun j => by simp [List.getElem?_drop]) (by rw [hdl]; exact hL.1) (hL.2 w' hw')
    rwa [hdl] at this) _ _ _ w.drew hC H
  rw [htl, show n + (l.toArray.size - n) = l.toArray.size by omega] at this
  exact this
end
/-- what a world may have more: blocks, and draws -/
structure More where
  rest : Array Obj
  drawn : Nat
instance : Inhabited More := ⟨⟨#[], 0⟩⟩
def grow (W : World) (m : More) : World := { W with heap := W.heap ++ m.rest, drawn := m.drawn }
theorem grow_below (W : World) (m : More) : Below W.heap.size W (grow W m) :=
  ⟨rfl, rfl, rfl, by simp [grow], fun i hi => by simp [grow, Array.getElem?_append_left hi]⟩
theorem below_grow {W w : World} (h : Below W.heap.size W w) : ∃ m, w = grow W m := by
  refine ⟨⟨w.heap.extract W.heap.size w.heap.size, w.drawn⟩, ?_⟩
  have e : w.heap = W.heap ++ w.heap.extract W.heap.size w.heap.size := by
    have hs := h.size
    refine Array.ext_getElem? fun i => ?_
    by_cases hi : i < W.heap.size
    · rw [Array.getElem?_append_left hi, h.block i hi]
    · rw [Array.getElem?_append_right (by omega)]
      rw [Array.getElem?_extract]
      by_cases hj : i < w.heap.size
      · rw [if_pos (by omega), show W.heap.size + (i - W.heap.size) = i by omega]
      · rw [if_neg (by omega), Array.getElem?_eq_none (by omega)]
  cases w with
  | mk heap tape drawn os output =>
    have h1 := h.os; have h2 := h.tape; have h3 := h.output
    simp only at h1 h2 h3 e
    subst h1 h2 h3
    simp only [grow]
    rw [← e]
theorem calls_grow {P : Program} {f : FuncId} {args : Array Value} {W : World} {n : More} {v : Value} (h : Calls P f args (grow W n) fun e w' => e = .returned v ∧ Below (grow W n).heap.size (grow W n) w') :
    Calls P f args (grow W n) fun e w'' => e = .returned v ∧ ∃ m, w'' = grow W m :=
  h.mono fun _ _ ⟨he, hb⟩ => ⟨he, below_grow (bthen (grow_below W n) hb)⟩
theorem calls_grow_quiet {P : Program} {f : FuncId} {args : Array Value} {W : World} {n : More} {v : Value} (h : Calls P f args (grow W n) fun e w' => e = .returned v ∧ ∃ k, w' = (grow W n).drewN k) :
    Calls P f args (grow W n) fun e w'' => e = .returned v ∧ ∃ m, w'' = grow W m :=
  calls_grow (h.mono fun _ _ ⟨he, k, hk⟩ => ⟨he, by rw [hk]; exact bdrewN (Below.refl _ _) k⟩)
theorem calls_grow_same {P : Program} {f : FuncId} {args : Array Value} {W : World} {n : More} {v : Value} (h : Calls P f args (grow W n) fun e w' => e = .returned v ∧ grow W n = w') :
    Calls P f args (grow W n) fun e w'' => e = .returned v ∧ ∃ m, w'' = grow W m :=
  calls_grow (h.mono fun _ _ ⟨he, hk⟩ => ⟨he, by rw [← hk]; exact Below.refl _ _⟩)
/-- the same in a class of its own: the world, grown -/
theorem wp_region_grow_tail {P : Program} {id : Nat} {Q : Exit → Act → World → Prop} {a : Act} {w : World} {l : List Oper} (n : Nat) (hm : P.follows .mixedOrders = true) (hB : Region.lexTailB .any l.toArray n = true)
    (h : wpQuiet P l.toArray (fun w' => ∃ m, w' = grow w m) (fun a' => ∀ w', (∃ m, w' = grow w m) → wpList P l.toArray Q (l.drop n) a' w') (l.take n) a) : (Code.region id l.toArray true).wp P Q a w :=
  wp_region_quiet_tail n hm hB (below_grow (bdrew (Below.refl _ _))) h
theorem wp_region_grow {P : Program} {id : Nat} {Q : Exit → Act → World → Prop} {a : Act} {w : World} {l : List Oper} (hm : P.follows .mixedOrders = true) (hB : Region.lexB .any l.toArray = true)
    (h : wpQuiet P l.toArray (fun w' => ∃ m, w' = grow w m) (fun a' => ∀ w', (∃ m, w' = grow w m) → Q .normal a' w') l a) : (Code.region id l.toArray true).wp P Q a w :=
  wp_region_quiet (C := fun w' => ∃ m, w' = grow w m) hm hB (below_grow (bdrew (Below.refl _ _))) (by simpa using h)
theorem take_at {P : Program} {ops : Array Oper} {Q : Exit → Act → World → Prop} {md : Region.Mode} {S : World → Prop} {i : Nat} {oi : Oper} {d : Option Nat} {v : Value} {fuel : Nat} {listed : Array Bool} {a : Act} {w : World} (hi : ops[i]? = some oi) (hd : oi.dst = d)
    (hs : Region.noSelect ops = true) (hf : Region.free md ops listed i = true) (hr : (Region.ready md ops listed).contains i = true)
    (hQ : ∀ c a w, Q (.panic c) (a.put d v) w → Q (.panic c) a w) (hy : YieldsIf P ops S oi v a) (hS : S w)
    (h : wpAnyH P md ops Q S fuel (listed.setIfInBounds i true) (a.put d v) w) : wpAnyH P md ops Q S (fuel + 1) listed a w := by
  subst hd
  exact wpAnyH_take hi hs hf hr hQ hy hS h
end Go.Proofs.Ytpfhplhamnohjaa
namespace Go.Proofs.Ytpfhplhamnohjaa
open Go.RowKit

section
variable {P : Program} {ops : Array Oper} {md : Region.Mode} {Q : Exit → Act → World → Prop} {S : World → Prop}
/-- as long as the head lasts: whatever may come up is of the head, and S holds behind it -/
def headH (P : Program) (md : Region.Mode) (ops : Array Oper) (Q : Exit → Act → World → Prop) (S : World → Prop) (n m : Nat) : Nat → Array Bool → Act → World → Prop
  | 0, listed, a, w => Region.seqB md ops m n listed = true ∧ wpList P ops Q (ops.toList.drop n) a w
  | k + 1, listed, a, w => Region.ready md ops listed ≠ [] ∧ ∀ i ∈ Region.ready md ops listed, i < n ∧ wpOp P ops Q i (fun a' w' => S w' ∧ headH P md ops Q S n m k (listed.setIfInBounds i true) a' w') a w
theorem any_of_headH {n m : Nat} (hm : m = ops.size - n) : ∀ (k : Nat) (listed : Array Bool) (a : Act) (w : World), headH P md ops Q S n m k listed a w → wpAny P md ops Q (k + m) listed a w := by
  intro k
  induction k with
  | zero =>
    intro listed a w h
    have hl : (ops.toList.drop n).length = m := by simp [hm]
    have := wpAny_of_seq (md := md) (Q' := Q) (ops.toList.drop n) n listed a w (fun j => by simp [List.getElem?_drop]) (by rw [hl]; exact h.1) h.2
    rw [Nat.zero_add]
    rwa [hl] at this
  | succ k ih =>
    intro listed a w h
    rw [Nat.add_right_comm]
    exact ⟨fun e => absurd e h.1, fun i hi => wpOp_mono (fun a' w' h' => ih _ a' w' h'.2) (h.2 i hi).2⟩
theorem headH_first {n m i : Nat} {oi : Oper} {v : Value} (hi : ops[i]? = some oi) (hsel : ∀ (j : Nat) (o : Oper) cs b, ops[j]? = some o → o.op ≠ .select cs b)
    (hs : Region.sinkB md ops n = true) (hc : Region.chainB md ops n = true) (hn : n < ops.size) (hin : i < n) (hQ : ∀ c a w, Q (.panic c) (a.put oi.dst v) w → Q (.panic c) a w) :
    ∀ (k : Nat) (listed : Array Bool) (a : Act) (w : World), HeadInv md ops n listed →
      (∀ j oj, ops[j]? = some oj → j ≠ i → listed.getD j true = false → (∀ e ∈ oj.after, Region.binds md e = true → e.on ≠ i) → oi.apart ops oj = true) →
      i ∈ Region.ready md ops listed → YieldsIf P ops S oi v a → S w →
      headH P md ops Q S n m k (listed.setIfInBounds i true) (a.put oi.dst v) w → headH P md ops Q S n m (k + 1) listed a w := by
  intro k
  induction k with
  | zero =>
    intro listed a w inv _ hr hy hS H
    refine ⟨fun e => (by rw [e] at hr; cases hr), fun j hj => ?_⟩
    have hjn : j < n := Nat.lt_of_not_le fun h => tail_waits hs hc hn inv _ i rfl hin (mem_ready.1 hr).1 j h hj
    by_cases hji : j = i
    · subst hji; exact ⟨hjn, hy.wpOp hi hS ⟨hS, H⟩⟩
    · exact absurd (seqB_ready H.1 j (ready_mono hj hji)) (by omega)
  | succ k ih =>
    intro listed a w inv hfree hr hy hS H
    have hun := (mem_ready.1 hr).1
    refine ⟨fun e => (by rw [e] at hr; cases hr), fun j hj => ?_⟩
    have hjn : j < n := Nat.lt_of_not_le fun h => tail_waits hs hc hn inv _ i rfl hin hun j h hj
    refine ⟨hjn, ?_⟩
    by_cases hji : j = i
    · subst hji; exact hy.wpOp hi hS ⟨hS, H⟩
    obtain ⟨hjun, oj, hoj, hall⟩ := mem_ready.1 hj
    have hnot : ∀ e ∈ oj.after, Region.binds md e = true → e.on ≠ i := fun e he hb heq => by
      have h1 := hall e he hb
      rw [heq, getD_both hun] at h1
      cases h1
    have h1 := (H.2 j (ready_mono hj hji)).2
    have h2 := wpOp_putIf hoj (hfree j oj hoj hji hjun hnot) (fun cs b => hsel i oi cs b hi) (fun cs b => hsel j oj cs b hoj) hQ hy h1
    refine wpOp_mono (fun a' w' h3 => ⟨h3.2.1, ih (listed.setIfInBounds j true) a' w' (inv.set hj hjn) ?_ (ready_mono hr (Ne.symm hji)) h3.1 h3.2.1 ?_⟩) h2
    · intro l ol hl hli hlun hno
      refine hfree l ol hl hli ?_ hno
      by_cases hjl : j = l
      · subst hjl; exact hjun
      · rwa [getD_set_ne true hjl] at hlun
    · rw [Array.setIfInBounds_comm _ _ hji]
      exact h3.2.2
/-- the walk's goal: the head from here on -/
def HWalk (P : Program) (ops : Array Oper) (Q : Exit → Act → World → Prop) (S : World → Prop) (n m k : Nat) (listed : Array Bool) (a : Act) (w : World) : Prop :=
  Region.noSelect ops = true → Region.sinkB .any ops n = true → Region.chainB .any ops n = true → n < ops.size → HeadInv .any ops n listed → headH P .any ops Q S n m k listed a w
theorem hwalk_start {id : Nat} {a : Act} {w : World} (n : Nat) (hm : P.follows .mixedOrders = true) (h1 : Region.noSelect ops = true) (h2 : Region.sinkB .any ops n = true) (h3 : Region.chainB .any ops n = true) (h4 : decide (n < ops.size) = true)
    (h : HWalk P ops Q S n (ops.size - n) n (Array.replicate ops.size false) a w.drew) : (Code.region id ops true).wp P Q a w := by
  have hn : n < ops.size := of_decide_eq_true h4
  have inv : HeadInv .any ops n (Array.replicate ops.size false) :=
    ⟨by simp, fun j oj _ hl => (by rw [getD_replicate_false] at hl; cases hl), fun t _ ht => getD_in (by simpa using ht) (getD_replicate_false _ _)⟩
  refine wp_region_any hm ?_
  have := any_of_headH (Q := Q) rfl _ _ _ w.drew (h h1 h2 h3 hn inv)
  rwa [show n + (ops.size - n) = ops.size by omega] at this
theorem hwalk_take {n m k i : Nat} {oi : Oper} {d : Option Nat} {v : Value} {listed : Array Bool} {a : Act} {w : World} (hi : ops[i]? = some oi) (hd : oi.dst = d) (hf : Region.free .any ops listed i = true) (hr : (Region.ready .any ops listed).contains i = true) (hin : decide (i < n) = true)
    (hQ : ∀ c a w, Q (.panic c) (a.put d v) w → Q (.panic c) a w) (hy : YieldsIf P ops S oi v a) (hS : S w)
    (h : HWalk P ops Q S n m k (listed.setIfInBounds i true) (a.put d v) w) : HWalk P ops Q S n m (k + 1) listed a w := by
  subst hd
  intro h1 h2 h3 hn inv
  have hr' : i ∈ Region.ready .any ops listed := by simpa using hr
  have hin' : i < n := of_decide_eq_true hin
  exact headH_first hi (Region.noSelect_spec h1) h2 h3 hn hin' hQ k listed a w inv (Region.free_spec hi hf) hr' hy hS (h h1 h2 h3 hn (inv.set hr' hin'))
/-- one operation alone may come up: it is walked -/
theorem hwalk_one {n m k i : Nat} {oi : Oper} {listed : Array Bool} {a : Act} {w : World} (hi : ops[i]? = some oi) (hr : Region.ready .any ops listed = [i]) (hin : decide (i < n) = true) (hg : oi.guard = none)
    (h : ∀ K : Act → World → Prop, (∀ a w, S w → HWalk P ops Q S n m k (listed.setIfInBounds i true) a w → K a w) → Oper.wp P oi a w K Q) : HWalk P ops Q S n m (k + 1) listed a w := by
  intro h1 h2 h3 hn inv
  have hin' : i < n := of_decide_eq_true hin
  have hr' : i ∈ Region.ready .any ops listed := by rw [hr]; simp
  refine ⟨by rw [hr]; simp, fun j hj => ?_⟩
  rw [hr] at hj
  obtain rfl : j = i := by simpa using hj
  refine ⟨hin', ?_⟩
  unfold wpOp
  simp only [hi, Region.wanted, hg, if_true]
  exact .inl (h _ (fun a' w' hS' hH => ⟨hS', hH h1 h2 h3 hn (inv.set hr' hin')⟩))
theorem hwalk_done {n m : Nat} {listed : Array Bool} {a : Act} {w : World} (hq : Region.seqB .any ops m n listed = true) (h : wpList P ops Q (ops.toList.drop n) a w) : HWalk P ops Q S n m 0 listed a w :=
  fun _ _ _ _ _ => ⟨hq, h⟩
end
end Go.Proofs.Ytpfhplhamnohjaa
