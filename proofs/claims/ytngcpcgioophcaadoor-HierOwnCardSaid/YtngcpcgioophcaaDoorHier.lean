/- Layer 11: three TLBs in memory, of the program (hier) and of the document (atlasref11); what one call makes of their places. -/
import Derived.Test.YtngcpcgioophcaaDoorAsk
namespace Go.Proofs.YtngcpcgioophcaaDoor
open Go.RowKit

def upd (xs : Nat → List Slot) (k : Nat) (ys : List Slot) : Nat → List Slot := fun j => if j = k then ys else xs j
theorem upd_at (xs : Nat → List Slot) (k : Nat) (ys : List Slot) : upd xs k ys k = ys := by simp [upd]
theorem upd_ne (xs : Nat → List Slot) (k : Nat) (ys : List Slot) (j : Nat) (h : j ≠ k) : upd xs k ys j = xs j := by simp [upd, h]
theorem upd_self (xs : Nat → List Slot) (k : Nat) : upd xs k (xs k) = xs := by funext j; unfold upd; split <;> simp_all
/-- grown, and only old blocks of S written -/
structure GrownS (w w' : World) (S : Nat → Prop) : Prop where
  os : w'.os = w.os
  tape : w'.tape = w.tape
  output : w'.output = w.output
  size : w.heap.size ≤ w'.heap.size
  block : ∀ i, i < w.heap.size → ¬ S i → w'.heap[i]? = w.heap[i]?
section
variable {w w' w1 : World} {S : Nat → Prop}
theorem GrownS.refl (w : World) (S : Nat → Prop) : GrownS w w S := ⟨rfl, rfl, rfl, Nat.le_refl _, fun _ _ _ => rfl⟩
theorem GrownS.drew (w : World) (S : Nat → Prop) : GrownS w w.drew S := ⟨rfl, rfl, rfl, Nat.le_refl _, fun _ _ _ => rfl⟩
theorem GrownS.drewN (w : World) (S : Nat → Prop) (n : Nat) : GrownS w (w.drewN n) S := ⟨rfl, rfl, rfl, Nat.le_refl _, fun _ _ _ => rfl⟩
theorem GrownS.trans (h : GrownS w w' S) (k : GrownS w' w1 S) : GrownS w w1 S :=
  ⟨k.os.trans h.os, k.tape.trans h.tape, k.output.trans h.output, Nat.le_trans h.size k.size, fun i hi hn => (k.block i (Nat.lt_of_lt_of_le hi h.size) hn).trans (h.block i hi hn)⟩
theorem GrownS.ofBelow (k : Below w.heap.size w w') : GrownS w w' S := ⟨k.os, k.tape, k.output, k.size, fun i hi _ => k.block i hi⟩
theorem GrownS.below (h : GrownS w w' S) (k : Below w'.heap.size w' w1) : GrownS w w1 S := h.trans (GrownS.ofBelow k)
theorem GrownS.alloc (h : GrownS w w' S) (o : Obj) : GrownS w (w'.alloc o) S := h.below ((Below.refl _ _).alloc (Nat.le_refl _) o)
theorem GrownS.ofOne {g : Nat} (k : w.grownBy w' (some g)) (hg : S g) : GrownS w w' S := ⟨k.os, k.tape, k.output, k.size, fun i hi hn => k.block i hi (fun e => hn (by have := Option.some.inj e; rw [this]; exact hg))⟩
theorem GrownS.one {g : Nat} (h : GrownS w w' S) (k : w'.grownBy w1 (some g)) (hg : S g) : GrownS w w1 S := h.trans (GrownS.ofOne k hg)
/-- a write into a new block -/
theorem GrownS.new {g : Nat} (h : GrownS w w' S) (k : w'.grownBy w1 (some g)) (hg : w.heap.size ≤ g) : GrownS w w1 S :=
  ⟨k.os.trans h.os, k.tape.trans h.tape, k.output.trans h.output, Nat.le_trans h.size k.size, fun i hi hn => (k.block i (Nat.lt_of_lt_of_le hi h.size) (fun e => by have := Option.some.inj e; omega)).trans (h.block i hi hn)⟩
theorem GrownS.bel {B : Nat} (h : GrownS w w' S) (hB : B ≤ w.heap.size) (hS : ∀ i, S i → B ≤ i) : Below B w w' :=
  ⟨h.os, h.tape, h.output, h.size, fun i hi => h.block i (Nat.lt_of_lt_of_le hi hB) (fun hs => by have := hS i hs; omega)⟩
theorem GrownS.cell (h : GrownS w w' S) {b o : Nat} (hb : b < w.heap.size) (hn : ¬ S b) : w'.cell? ⟨b, o, none⟩ = w.cell? ⟨b, o, none⟩ := World.cell?_of_block (h.block b hb hn)
theorem GrownS.unbox {o : Obj} (k : GrownS (w.alloc o) w1 S) : GrownS w w1 S :=
  ⟨k.os, k.tape, k.output, Nat.le_trans (by simp) k.size, fun i hi hn => (k.block i (by simp; omega) hn).trans (Below.heap_alloc w o i hi)⟩
theorem Blok.gs {g : Nat} {t : TypeId} {cs : List Value} (h : Blok w g t cs) (hb : GrownS w w' S) (hg : ¬ S g) : Blok w' g t cs := (hb.block g h.lt hg).trans h
theorem Shf.gs (h : Shf w) (hb : GrownS w w' S) (hg : ¬ S 0) : Shf w' :=
  ⟨(hb.cell h.pos hg).trans h.s0, (hb.cell h.pos hg).trans h.s1, (hb.cell h.pos hg).trans h.s2, (hb.cell h.pos hg).trans h.s3, (hb.cell h.pos hg).trans h.s4⟩
theorem IsTlb.gs {tt st : TypeId} {tb g : Nat} {xs : List Slot} (h : IsTlb w tt st tb g xs) (hb : GrownS w w' S) (h1 : ¬ S tb) (h2 : ¬ S g) : IsTlb w' tt st tb g xs :=
  ⟨h.hd.gs hb h1, h.sl.gs hb h2, h.ne, h.pos, h.le⟩
end
def In3 (gb : Nat → Nat) : Nat → Prop := fun i => ∃ k, 1 ≤ k ∧ k ≤ 3 ∧ i = gb k
structure Three (w : World) (tt : TypeId) (tb gb : Nat → Nat) (xs : Nat → List Slot) : Prop where
  t : ∀ k, 1 ≤ k → k ≤ 3 → IsTlb w tt 50 (tb k) (gb k) (xs k)
  inj : ∀ j k, 1 ≤ j → j ≤ 3 → 1 ≤ k → k ≤ 3 → gb j = gb k → j = k
  far : ∀ j k, 1 ≤ j → j ≤ 3 → 1 ≤ k → k ≤ 3 → gb j ≠ tb k
  gz : ∀ k, 1 ≤ k → k ≤ 3 → gb k ≠ 0
section
variable {w w' : World} {tt : TypeId} {tb gb : Nat → Nat} {xs : Nat → List Slot}
theorem In3.mk {k : Nat} (h1 : 1 ≤ k) (h3 : k ≤ 3) : In3 gb (gb k) := ⟨k, h1, h3, rfl⟩
theorem Three.below (h : Three w tt tb gb xs) (hb : Below w.heap.size w w') : Three w' tt tb gb xs := ⟨fun k h1 h3 => (h.t k h1 h3).below hb, h.inj, h.far, h.gz⟩
theorem Three.gs {S : Nat → Prop} (h : Three w tt tb gb xs) (hb : GrownS w w' S) (h1 : ∀ k, 1 ≤ k → k ≤ 3 → ¬ S (tb k)) (h2 : ∀ k, 1 ≤ k → k ≤ 3 → ¬ S (gb k)) : Three w' tt tb gb xs :=
  ⟨fun k a b => (h.t k a b).gs hb (h1 k a b) (h2 k a b), h.inj, h.far, h.gz⟩
theorem Three.put {k : Nat} {ys : List Slot} (h : Three w tt tb gb xs) (h1 : 1 ≤ k) (h3 : k ≤ 3) (hk : IsTlb w' tt 50 (tb k) (gb k) ys) (hg : w.grownBy w' (some (gb k))) : Three w' tt tb gb (upd xs k ys) := by
  refine ⟨fun j a b => ?_, h.inj, h.far, h.gz⟩
  by_cases e : j = k
  · subst e; rw [upd_at]; exact hk
  · rw [upd_ne _ _ _ _ e]
    exact (h.t j a b).far' hg (fun c => h.far k j h1 h3 a b c.symm) (fun c => e (h.inj j k a b h1 h3 c))
theorem Three.zero (h : Three w tt tb gb xs) : ¬ In3 gb 0 := fun ⟨k, h1, h3, e⟩ => h.gz k h1 h3 e.symm
end
def ptr (b : Nat) : Value := .pointer (some ⟨b, 0, none⟩)
/-- the program's three, behind their struct -/
structure IsHier (w : World) (hb : Nat) (tb gb : Nat → Nat) (xs : Nat → List Slot) : Prop where
  b : Blok w hb 116 [.pointer (some ⟨tb 1, 0, none⟩), .pointer (some ⟨tb 2, 0, none⟩), .pointer (some ⟨tb 3, 0, none⟩)]
  th : Three w 105 tb gb xs
  ne : ¬ In3 gb hb
/-- the document's three, behind their struct -/
structure IsRef (w : World) (hb : Nat) (tb gb : Nat → Nat) (xs : Nat → List Slot) : Prop where
  b : Blok w hb 125 [.pointer none, .pointer (some ⟨tb 1, 0, none⟩), .pointer (some ⟨tb 2, 0, none⟩), .pointer (some ⟨tb 3, 0, none⟩)]
  th : Three w 67 tb gb xs
  ne : ¬ In3 gb hb
section
variable {w w' : World} {hb : Nat} {tb gb : Nat → Nat} {xs : Nat → List Slot}
theorem IsHier.below (h : IsHier w hb tb gb xs) (k : Below w.heap.size w w') : IsHier w' hb tb gb xs := ⟨h.b.below k h.b.lt, h.th.below k, h.ne⟩
theorem IsRef.below (h : IsRef w hb tb gb xs) (k : Below w.heap.size w w') : IsRef w' hb tb gb xs := ⟨h.b.below k h.b.lt, h.th.below k, h.ne⟩
theorem IsHier.alloc (h : IsHier w hb tb gb xs) (o : Obj) : IsHier (w.alloc o) hb tb gb xs := h.below ((Below.refl _ _).alloc (Nat.le_refl _) o)
theorem IsRef.alloc (h : IsRef w hb tb gb xs) (o : Obj) : IsRef (w.alloc o) hb tb gb xs := h.below ((Below.refl _ _).alloc (Nat.le_refl _) o)
theorem IsHier.put {k : Nat} {ys : List Slot} (h : IsHier w hb tb gb xs) (h1 : 1 ≤ k) (h3 : k ≤ 3) (hk : IsTlb w' 105 50 (tb k) (gb k) ys) (hg : w.grownBy w' (some (gb k))) : IsHier w' hb tb gb (upd xs k ys) :=
  ⟨h.b.grown hg (fun e => h.ne ⟨k, h1, h3, Option.some.inj e⟩), h.th.put h1 h3 hk hg, h.ne⟩
theorem IsRef.put {k : Nat} {ys : List Slot} (h : IsRef w hb tb gb xs) (h1 : 1 ≤ k) (h3 : k ≤ 3) (hk : IsTlb w' 67 50 (tb k) (gb k) ys) (hg : w.grownBy w' (some (gb k))) : IsRef w' hb tb gb (upd xs k ys) :=
  ⟨h.b.grown hg (fun e => h.ne ⟨k, h1, h3, Option.some.inj e⟩), h.th.put h1 h3 hk hg, h.ne⟩
/-- a write into a block that is none of theirs -/
theorem IsHier.new {g : Nat} (h : IsHier w hb tb gb xs) (k : w.grownBy w' (some g)) (hg : ∀ b t cs, Blok w b t cs → b < g) : IsHier w' hb tb gb xs :=
  ⟨h.b.grown k (fun e => by have := hg _ _ _ h.b; have := Option.some.inj e; omega), ⟨fun j a b => (h.th.t j a b).far' k (fun e => by have := hg _ _ _ (h.th.t j a b).hd; omega) (fun e => by have := hg _ _ _ (h.th.t j a b).sl; omega), h.th.inj, h.th.far, h.th.gz⟩, h.ne⟩
end
/-- a block is put, if it is right -/
def putAny (b : Blk) (xs : List Slot) (p : Int) : List Slot := if rightB b = true then putRow b xs p else xs
theorem putAny_len (b : Blk) (xs : List Slot) (p : Int) : (putAny b xs p).length = xs.length := by unfold putAny; split; exact putRow_len _ _ _; rfl
theorem putAny_ok (b : Blk) (hb : b.Ok) (xs : List Slot) (p : Int) (h : RowOk xs) : RowOk (putAny b xs p) := by unfold putAny; split; exact putRow_ok _ _ _ h hb; exact h
def takeRow (b : Blk) (va asid p : Int) (xs : List Slot) : List Slot := if lookN va asid xs = 0 then putAny b xs p else xs
theorem takeRow_len (b : Blk) (va asid p : Int) (xs : List Slot) : (takeRow b va asid p xs).length = xs.length := by unfold takeRow; split; exact putAny_len _ _ _; rfl
theorem takeRow_ok (b : Blk) (hb : b.Ok) (va asid p : Int) (xs : List Slot) (h : RowOk xs) : RowOk (takeRow b va asid p xs) := by unfold takeRow; split; exact putAny_ok _ hb _ _ h; exact h
def sm (fetch : Bool) : Nat := if fetch = true then 1 else 2
theorem sm_le (f : Bool) : 1 ≤ sm f ∧ sm f ≤ 3 ∧ sm f ≠ 3 := by cases f <;> simp [sm]
def many (n : Nat) : Nat := if 2 < n then 2 else n
/-- Find: what is found, how many, and the places behind it -/
def findR (xs : Nat → List Slot) (va asid : Int) (fetch : Bool) (pick : Int) (mf : Bool) : Blk × Nat × (Nat → List Slot) :=
  if (mf = true ∧ 0 < lookN va asid (xs 3)) ∨ (mf = false ∧ lookN va asid (xs (sm fetch)) = 0) then
    (lookB va asid (xs 3), many (lookN va asid (xs 3)), if lookN va asid (xs 3) = 1 ∧ lookN va asid (xs (sm fetch)) = 0 then upd xs (sm fetch) (putAny (lookB va asid (xs 3)) (xs (sm fetch)) pick) else xs)
  else (lookB va asid (xs (sm fetch)), many (lookN va asid (xs (sm fetch))), xs)
def keepR (xs : Nat → List Slot) (b : Blk) (va asid : Int) (fetch : Bool) (pick : Int) : Nat → List Slot :=
  if overB b va asid = true then upd (upd xs 3 (takeRow b va asid pick (xs 3))) (sm fetch) (takeRow b va asid pick (xs (sm fetch))) else xs
def evictR (xs : Nat → List Slot) (which place : Int) : Bool × (Nat → List Slot) :=
  if 1 ≤ which ∧ which ≤ 3 then
    (if 0 ≤ place ∧ place < (xs which.toNat).length then ((((xs which.toNat)[place.toNat]?).map (·.full)).getD false, upd xs which.toNat ((xs which.toNat).set place.toNat zslot)) else (false, xs))
  else (false, xs)
def dropR (xs : Nat → List Slot) (d : Tlbi) : Nat → List Slot := fun k => dropRow d (xs k)
theorem lookB_ok (va asid : Int) (xs : List Slot) (h : RowOk xs) : (lookB va asid xs).Ok := by
  unfold lookB; split; exact lookF_ok _ _ _ h; exact zblk_ok
theorem tlb_Put_any (b : Blk) (hb : b.Ok) (tb g : Nat) (xs : List Slot) (pick : Int) (hp0 : -9223372036854775808 ≤ pick) (hp1 : pick ≤ 9223372036854775807) (w : World) (hs : Shf w) (h : IsTlb w 105 50 tb g xs) :
    Calls Tryd.prog 53 #[.pointer (some ⟨tb, 0, none⟩), (.agg #[.int .i64 b.asid, .int .i64 b.size, .int .u32 b.va, .int .u64 b.pa, .int .i64 b.dom, .int .i64 b.ap, .int .u32 b.bits, .bool b.ng, .bool b.xn]), .int .i64 pick] w fun e w' => (∃ a c : Int, e = .returned (.tuple #[.int .i64 a, .int .i64 c])) ∧ IsTlb w' 105 50 tb g (putAny b xs pick) ∧ w.grownBy w' (some g) := by
  cases hr : rightB b
  · refine (tlb_Put_no b hb hr ⟨tb, 0, none⟩ pick w hs).mono ?_
    rintro e w' ⟨rfl, hb⟩
    have e3 : putAny b xs pick = xs := by unfold putAny; simp [hr]
    rw [e3]
    exact ⟨⟨_, _, rfl⟩, h.below hb, grown_of hb _⟩
  · refine (tlb_Put_yes b hb hr tb g xs pick hp0 hp1 w hs h).mono ?_
    rintro e w' ⟨rfl, hb, hg⟩
    have e3 : putAny b xs pick = putRow b xs pick := by unfold putAny; simp [hr]
    rw [e3]
    exact ⟨⟨_, _, rfl⟩, h.to hb hg (putRow_len _ _ _), hg⟩
theorem ref_Put_any (b : Blk) (hb : b.Ok) (tb g : Nat) (xs : List Slot) (pick : Int) (hp0 : -9223372036854775808 ≤ pick) (hp1 : pick ≤ 9223372036854775807) (w : World) (h : IsTlb w 67 50 tb g xs) :
    Calls Tryd.prog 63 #[.pointer (some ⟨tb, 0, none⟩), (.agg #[.int .i64 b.asid, .int .i64 b.size, .int .u32 b.va, .int .u64 b.pa, .int .i64 b.dom, .int .i64 b.ap, .int .u32 b.bits, .bool b.ng, .bool b.xn]), .int .i64 pick] w fun e w' => (∃ a c : Int, e = .returned (.tuple #[.int .i64 a, .int .i64 c])) ∧ IsTlb w' 67 50 tb g (putAny b xs pick) ∧ w.grownBy w' (some g) := by
  cases hr : rightB b
  · refine (ref_Put_no b hb hr ⟨tb, 0, none⟩ pick w).mono ?_
    rintro e w' ⟨rfl, hb⟩
    have e3 : putAny b xs pick = xs := by unfold putAny; simp [hr]
    rw [e3]
    exact ⟨⟨_, _, rfl⟩, h.below hb, grown_of hb _⟩
  · refine (ref_Put_yes b hb hr tb g xs pick hp0 hp1 w h).mono ?_
    rintro e w' ⟨rfl, hb, hg⟩
    have e3 : putAny b xs pick = putRow b xs pick := by unfold putAny; simp [hr]
    rw [e3]
    exact ⟨⟨_, _, rfl⟩, h.to hb hg (putRow_len _ _ _), hg⟩
end Go.Proofs.YtngcpcgioophcaaDoor
