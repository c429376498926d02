/- Words of HierMakes: the three TLBs as they are made, of the program and of the document. -/
import Derived.Test.YtakihcdolpocjaaCBase
import Derived.Test.YtakihcdolpocjaaPlain2
import Derived.Deep.AppendLies
import Derived.Laws.CopyOwn
import Derived.Deep.WholeRow
import Derived.LoopN
import Derived.Laws.StructEq
namespace Go.Proofs.Ytakihcdolpocjaa
open Go.RowKit

def slotCells (s : Slot) : List Value := [.bool s.full, .int .i64 s.blk.asid, .int .i64 s.blk.size, .int .u32 s.blk.va, .int .u64 s.blk.pa, .int .i64 s.blk.dom, .int .i64 s.blk.ap, .int .u32 s.blk.bits, .bool s.blk.ng, .bool s.blk.xn]
def rowCells (xs : List Slot) : List Value := xs.flatMap slotCells
theorem slotCells_len (s : Slot) : (slotCells s).length = 10 := rfl
theorem rowCells_len (xs : List Slot) : (rowCells xs).length = xs.length * 10 := by
  induction xs with
  | nil => rfl
  | cons x xs ih => simp only [rowCells, List.flatMap_cons, List.length_append, List.length_cons, slotCells_len] at ih ⊢; omega
theorem rowCells_at (xs : List Slot) : ∀ (i j : Nat) (s : Slot), xs[i]? = some s → j < 10 → (rowCells xs)[i * 10 + j]? = (slotCells s)[j]? := by
  induction xs with
  | nil => intro i j s h; simp at h
  | cons x xs ih =>
    intro i j s h hj
    simp only [rowCells, List.flatMap_cons]
    cases i with
    | zero =>
      simp at h; subst h
      rw [List.getElem?_append_left (by rw [slotCells_len]; omega)]; simp
    | succ i =>
      rw [List.getElem?_append_right (by rw [slotCells_len]; omega), slotCells_len]
      have e : (i + 1) * 10 + j - 10 = i * 10 + j := by omega
      rw [e]
      exact ih i j s (by simpa using h) hj
theorem rowCells_set (xs : List Slot) : ∀ (i : Nat) (s : Slot), i < xs.length →
    rowCells (xs.set i s) = (rowCells xs).take (i * 10) ++ slotCells s ++ (rowCells xs).drop (i * 10 + 10) := by
  induction xs with
  | nil => intro i s h; simp at h
  | cons x xs ih =>
    intro i s h
    cases i with
    | zero => simp [rowCells, List.drop_append, slotCells_len, List.drop_of_length_le (show (slotCells x).length ≤ 10 by rw [slotCells_len]; omega)]
    | succ i =>
      have hi := ih i s (by simpa using h)
      simp only [rowCells, List.set_cons_succ, List.flatMap_cons] at hi ⊢
      have e1 : (i + 1) * 10 = 10 + i * 10 := by omega
      have e2 : (i + 1) * 10 + 10 = 10 + (i * 10 + 10) := by omega
      have t1 : (slotCells x).take (10 + i * 10) = slotCells x := List.take_of_length_le (by rw [slotCells_len]; omega)
      have t2 : (slotCells x).drop (10 + (i * 10 + 10)) = [] := List.drop_of_length_le (by rw [slotCells_len]; omega)
      have t3 : 10 + i * 10 - 10 = i * 10 := by omega
      have t4 : 10 + (i * 10 + 10) - 10 = i * 10 + 10 := by omega
      rw [e2, e1, hi, List.take_append, List.drop_append, slotCells_len, t1, t2, t3, t4]
      simp only [List.append_assoc, List.nil_append]
/-- a TLB: its one cell at block tb, its places at block g -/
structure IsTlb (w : World) (tt st : TypeId) (tb g : Nat) (xs : List Slot) : Prop where
  hd : Blok w tb tt [.slice (some ⟨g, 0, none⟩) xs.length xs.length]
  sl : Blok w g st (rowCells xs)
  ne : tb ≠ g
  pos : 0 < xs.length
  le : xs.length ≤ 64
theorem IsTlb.cells {w : World} {tt st : TypeId} {tb g : Nat} {xs : List Slot} (h : IsTlb w tt st tb g xs) (i : Nat) (s : Slot) (hs : xs[i]? = some s) (j : Nat) (hj : j < 10) : w.cell? ⟨g, i * 10 + j, none⟩ = (slotCells s)[j]? := by
  rw [h.sl.cell, rowCells_at xs i j s hs hj]
theorem IsTlb.below {w w' : World} {tt st : TypeId} {tb g : Nat} {xs : List Slot} (h : IsTlb w tt st tb g xs) (hb : Below w.heap.size w w') : IsTlb w' tt st tb g xs :=
  ⟨h.hd.below hb h.hd.lt, h.sl.below hb h.sl.lt, h.ne, h.pos, h.le⟩
set_option maxHeartbeats 1600000 in
theorem eqIn_blk (d : Nat) (b c : Blk) (w : World) : (Op.equalIn (d + 5) 52 (.agg #[.int .i64 b.asid, .int .i64 b.size, .int .u32 b.va, .int .u64 b.pa, .int .i64 b.dom, .int .i64 b.ap, .int .u32 b.bits, .bool b.ng, .bool b.xn]) (.agg #[.int .i64 c.asid, .int .i64 c.size, .int .u32 c.va, .int .u64 c.pa, .int .i64 c.dom, .int .i64 c.ap, .int .u32 c.bits, .bool c.ng, .bool c.xn])).run Try.prog w = .ok (b.eqB c) w := by
  unfold Blk.eqB
  by_cases h0 : b.asid = c.asid
  case neg => simp [go_sem, h0]
  by_cases h1 : b.size = c.size
  case neg => simp [go_sem, h0, h1]
  by_cases h2 : b.va = c.va
  case neg => simp [go_sem, h0, h1, h2]
  by_cases h3 : b.pa = c.pa
  case neg => simp [go_sem, h0, h1, h2, h3]
  by_cases h4 : b.dom = c.dom
  case neg => simp [go_sem, h0, h1, h2, h3, h4]
  by_cases h5 : b.ap = c.ap
  case neg => simp [go_sem, h0, h1, h2, h3, h4, h5]
  by_cases h6 : b.bits = c.bits
  case neg => simp [go_sem, h0, h1, h2, h3, h4, h5, h6]
  by_cases h7 : b.ng = c.ng
  case neg => simp [go_sem, h0, h1, h2, h3, h4, h5, h6, h7]
  by_cases h8 : b.xn = c.xn
  case neg => simp [go_sem, h0, h1, h2, h3, h4, h5, h6, h7, h8]
  simp [go_sem, h0, h1, h2, h3, h4, h5, h6, h7, h8]
theorem eql_blk (b c : Blk) (w : World) : (binOp .eql 52 (.agg #[.int .i64 b.asid, .int .i64 b.size, .int .u32 b.va, .int .u64 b.pa, .int .i64 b.dom, .int .i64 b.ap, .int .u32 b.bits, .bool b.ng, .bool b.xn]) (.agg #[.int .i64 c.asid, .int .i64 c.size, .int .u32 c.va, .int .u64 c.pa, .int .i64 c.dom, .int .i64 c.ap, .int .u32 c.bits, .bool c.ng, .bool c.xn])).run Try.prog w = .ok (.bool (b.eqB c)) w := by
  rw [run_eql_struct, eqIn_blk 9995]; rfl
theorem neq_blk (b c : Blk) (w : World) : (binOp .neq 52 (.agg #[.int .i64 b.asid, .int .i64 b.size, .int .u32 b.va, .int .u64 b.pa, .int .i64 b.dom, .int .i64 b.ap, .int .u32 b.bits, .bool b.ng, .bool b.xn]) (.agg #[.int .i64 c.asid, .int .i64 c.size, .int .u32 c.va, .int .u64 c.pa, .int .i64 c.dom, .int .i64 c.ap, .int .u32 c.bits, .bool c.ng, .bool c.xn])).run Try.prog w = .ok (.bool (!(b.eqB c))) w := by
  rw [run_neq_struct, eqIn_blk 9995]; rfl
theorem made_zero (n : Nat) : madeCells #[.bool false, .int .i64 0, .int .i64 0, .int .u32 0, .int .u64 0, .int .i64 0, .int .i64 0, .int .u32 0, .bool false, .bool false] (n * 10) = (rowCells (newRow n)).toArray := by
  apply Array.ext_getElem?
  intro i
  have hl : (rowCells (newRow n)).length = n * 10 := by rw [rowCells_len]; simp [newRow]
  by_cases h : i < n * 10
  · have h1 : (rowCells (newRow n)).toArray[i]? = (rowCells (newRow n))[i / 10 * 10 + i % 10]? := by
      have e : i / 10 * 10 + i % 10 = i := by omega
      rw [e]; simp
    have h2 : (newRow n)[i / 10]? = some zslot := by unfold newRow; rw [List.getElem?_replicate]; rw [if_pos (by omega)]
    rw [h1, rowCells_at _ _ _ _ h2 (by omega)]
    simp only [madeCells, Array.getElem?_map, Array.getElem?_range, h, if_true, Option.map_some]
    have h3 : i % 10 < 10 := by omega
    have h4 : i % (#[.bool false, .int .i64 0, .int .i64 0, .int .u32 0, .int .u64 0, .int .i64 0, .int .i64 0, .int .u32 0, .bool false, .bool false] : Array Value).size = i % 10 := rfl
    rw [h4]
    generalize i % 10 = j at h3
    match j, h3 with
    | 0, _ => rfl
    | 1, _ => rfl
    | 2, _ => rfl
    | 3, _ => rfl
    | 4, _ => rfl
    | 5, _ => rfl
    | 6, _ => rfl
    | 7, _ => rfl
    | 8, _ => rfl
    | 9, _ => rfl
  · rw [Array.getElem?_eq_none (by simp [size_madeCells]; omega), Array.getElem?_eq_none (by simp [hl]; omega)]
theorem slot_info : (Try.prog.info? 54).map (fun i => (i.zero, i.size, i.bytes)) = some (some (.agg #[.bool false, .int .i64 0, .int .i64 0, .int .u32 0, .int .u64 0, .int .i64 0, .int .i64 0, .int .u32 0, .bool false, .bool false]), 10, 64) := by kernel_rfl
theorem make_slots (n : Nat) (hn : n ≤ 64) (W : World) : (Instr.makeSlice 36 (.int .i64 n) (.int .i64 n)).run Try.prog W = .ok (.slice (some ⟨W.heap.size, 0, none⟩) n n) (W.alloc (.cells (rowCells (newRow n)).toArray 54)) := by
  obtain ⟨i0, hi, hz0, hz1, hz2⟩ := info_parts slot_info
  have h := run_make (P := Try.prog) (w := W) 36 54 i0 _ Try.underlying36 hi hz0 .i64 .i64 n n (by omega) (by omega) (by rw [hz2]; omega) (by omega)
  simp only [Int.toNat_natCast, hz1, Value.cells] at h
  rw [made_zero] at h
  exact h
set_option maxHeartbeats 800000 in
theorem tlb_New_yes (n : Nat) (h1 : 1 ≤ n) (h2 : n ≤ 64) (w : World) :
    Calls Try.prog 24 #[.int .i64 n] w fun e w' => e = .returned (.tuple #[.pointer (some ⟨w.heap.size + 1, 0, none⟩), .int .i64 0]) ∧ IsTlb w' 79 54 (w.heap.size + 1) w.heap.size (newRow n) ∧ Below w.heap.size w w' := by
  have hmk := make_slots n h2
  go_enter Try.func24, Try.ntmps24
  go_wp2
  go_ret2
  have hlen : (newRow n).length = n := by simp [newRow]
  refine ⟨rfl, ⟨?_, ?_, by omega, by omega, by omega⟩, ((Below.refl _ _).alloc (Nat.le_refl _) _).alloc (by simp) _⟩
  · have := Blok.new (w.alloc (.cells (rowCells (newRow n)).toArray 54)) 79 [.slice (some ⟨w.heap.size, 0, none⟩) n n]
    rw [hlen]
    have e : (w.alloc (.cells (rowCells (newRow n)).toArray 54)).heap.size = w.heap.size + 1 := by simp
    rw [e] at this
    exact this
  · exact (Blok.new w _ _).alloc _
theorem tlb_New_no (n : Int) (h : n < 1 ∨ 64 < n) (w : World) :
    Calls Try.prog 24 #[.int .i64 n] w fun e w' => e = .returned (.tuple #[.pointer none, .int .i64 100]) ∧ w = w' := by
  rcases h with h | h
  all_goals
    go_enter Try.func24, Try.ntmps24
    go_wp2
  all_goals
    go_ret2
    exact ⟨rfl, rfl⟩
/-- copy of a row of places -/
theorem run_copy_rowN {P : Program} (w : World) (dT sT ty elem : TypeId) (sz g dLen dCap : Nat) (a : Addr) (sLen sCap : Nat) (cur : Array Value) (t : TypeId) (cs : List Value)
    (hu : P.underlying dT = some (.slice elem)) (hs : (P.info? elem).map (·.size) = some sz)
    (hg : w.heap[g]? = some (.cells cur t (0, 0))) (hn : cs.length = Nat.min sLen dLen * sz)
    (hsrc : ∀ j v, cs[j]? = some v → w.cell? (a.add j) = some v) (hfit : cs.length ≤ cur.size) (h1 : ∀ v ∈ cs, v.oneCell' = true) :
    (Builtin.copy_ #[dT, sT] ty #[.slice (some ⟨g, 0, none⟩) dLen dCap, .slice (some a) sLen sCap]).run P w =
      .ok (goInt (Nat.min sLen dLen)) (w.setRow g (cs ++ cur.toList.drop cs.length).toArray) := by
  have hl := run_loadCells_list (P := P) w a cs hsrc
  have hst := run_storeCells_at P g 0 t cs 0 cur w hg (by simpa using hfit) h1
  cases hq : P.info? elem with
  | none => simp [hq] at hs
  | some i =>
    have hi : i.size = sz := by simpa [hq] using hs
    simp only [Nat.zero_add, List.take_zero, List.nil_append, Nat.add_zero] at hst
    simp [Builtin.copy_, run_underlying hu, Builtin.lenOf, Builtin.firstCells, sizeOf, typeInfo, hq, hi, ← hn, hl, hst]
set_option maxHeartbeats 1600000 in
/-- all of its places, in new memory -/
theorem tlb_Places_is (tb g : Nat) (xs : List Slot) (w : World) (h : IsTlb w 79 54 tb g xs) :
    Calls Try.prog 23 #[.pointer (some ⟨tb, 0, none⟩)] w fun e w' => e = .returned (.slice (some ⟨w.heap.size, 0, none⟩) xs.length xs.length) ∧ Blok w' w.heap.size 54 (rowCells xs) ∧ w'.heap.size = w.heap.size + 1 ∧ Below w.heap.size w w' := by
  have hl2 := h.le
  have htb := h.hd.lt
  have c0 : w.cell? ⟨tb, 0, none⟩ = some (.slice (some ⟨g, 0, none⟩) xs.length xs.length) := h.hd.cell 0
  have hmk := make_slots xs.length hl2 w
  have hW1 : (w.alloc (.cells (rowCells (newRow xs.length)).toArray 54)).heap[w.heap.size]? = some (.cells (rowCells (newRow xs.length)).toArray 54 (0, 0)) := heap_alloc_new w _
  have hsl := h.sl.alloc (.cells (rowCells (newRow xs.length)).toArray 54)
  have hcp : (Builtin.copy_ #[36, 36] 3 #[.slice (some ⟨w.heap.size, 0, none⟩) xs.length xs.length, .slice (some ⟨g, 0, none⟩) xs.length xs.length]).run Try.prog (w.alloc (.cells (rowCells (newRow xs.length)).toArray 54)) = .ok (goInt xs.length) (w.alloc (.cells (rowCells xs).toArray 54)) := by
    have hmin : xs.length.min xs.length = xs.length := Nat.min_self _
    have e1 := rowCells_len xs
    have e2 : (rowCells (newRow xs.length)).length = xs.length * 10 := by rw [rowCells_len]; simp [newRow]
    have := run_copy_rowN (P := Try.prog) (w.alloc (.cells (rowCells (newRow xs.length)).toArray 54)) 36 36 3 54 10 w.heap.size xs.length xs.length ⟨g, 0, none⟩ xs.length xs.length (rowCells (newRow xs.length)).toArray 54 (rowCells xs)
      Try.underlying36 (by kernel_rfl) hW1 (by rw [hmin]; exact e1) (fun j v hv => by
        have := hsl.cell j
        unfold Addr.add
        by_cases f : j = 0
        · subst f; simpa [hv] using this
        · simpa [f, hv] using this) (by simp; omega) (fun v hv => by
        obtain ⟨s, _, hs⟩ := List.mem_flatMap.1 hv
        simp only [slotCells, List.mem_cons, List.not_mem_nil, or_false] at hs
        rcases hs with rfl | rfl | rfl | rfl | rfl | rfl | rfl | rfl | rfl | rfl <;> rfl)
    rw [hmin, World.setRow_alloc_new] at this
    have e3 : (rowCells xs ++ (rowCells (newRow xs.length)).toArray.toList.drop (rowCells xs).length).toArray = (rowCells xs).toArray := by
      rw [List.drop_of_length_le (by simp; omega), List.append_nil]
    rw [e3] at this
    exact this
  clear hW1 hsl
  go_enter Try.func23, Try.ntmps23
  go_wp2
  go_ret
  exact ⟨rfl, Blok.new _ _ _, by simp, (Below.refl _ _).alloc (Nat.le_refl _) _⟩
theorem eqB_self' (b : Blk) : b.eqB b = true := by simp [Blk.eqB]
theorem neq_self (b : Blk) (w : World) : (binOp .neq 52 (.agg #[.int .i64 b.asid, .int .i64 b.size, .int .u32 b.va, .int .u64 b.pa, .int .i64 b.dom, .int .i64 b.ap, .int .u32 b.bits, .bool b.ng, .bool b.xn]) (.agg #[.int .i64 b.asid, .int .i64 b.size, .int .u32 b.va, .int .u64 b.pa, .int .i64 b.dom, .int .i64 b.ap, .int .u32 b.bits, .bool b.ng, .bool b.xn])).run Try.prog w = .ok (.bool false) w := by rw [neq_blk, eqB_self']; rfl
theorem IsTlb.far' {w w' : World} {tt st : TypeId} {tb g r : Nat} {xs : List Slot} (h : IsTlb w tt st tb g xs) (hg : w.grownBy w' (some r)) (h1 : tb ≠ r) (h2 : g ≠ r) : IsTlb w' tt st tb g xs :=
  ⟨h.hd.grown hg (by intro e; exact h1 (Option.some.inj e)), h.sl.grown hg (by intro e; exact h2 (Option.some.inj e)), h.ne, h.pos, h.le⟩
def In3 (gb : Nat → Nat) : Nat → Prop := fun i => ∃ k, 1 ≤ k ∧ k ≤ 3 ∧ i = gb k
structure Three (w : World) (tt : TypeId) (tb gb : Nat → Nat) (xs : Nat → List Slot) : Prop where
  t : ∀ k, 1 ≤ k → k ≤ 3 → IsTlb w tt 54 (tb k) (gb k) (xs k)
  inj : ∀ j k, 1 ≤ j → j ≤ 3 → 1 ≤ k → k ≤ 3 → gb j = gb k → j = k
  far : ∀ j k, 1 ≤ j → j ≤ 3 → 1 ≤ k → k ≤ 3 → gb j ≠ tb k
section
variable {w w' : World} {tt : TypeId} {tb gb : Nat → Nat} {xs : Nat → List Slot}
theorem In3.mk {k : Nat} (h1 : 1 ≤ k) (h3 : k ≤ 3) : In3 gb (gb k) := ⟨k, h1, h3, rfl⟩
theorem Three.below (h : Three w tt tb gb xs) (hb : Below w.heap.size w w') : Three w' tt tb gb xs := ⟨fun k h1 h3 => (h.t k h1 h3).below hb, h.inj, h.far⟩
end
def ptr (b : Nat) : Value := .pointer (some ⟨b, 0, none⟩)
/-- the program's three, behind their struct -/
structure IsHier (w : World) (hb : Nat) (tb gb : Nat → Nat) (xs : Nat → List Slot) : Prop where
  b : Blok w hb 74 [.pointer (some ⟨tb 1, 0, none⟩), .pointer (some ⟨tb 2, 0, none⟩), .pointer (some ⟨tb 3, 0, none⟩)]
  th : Three w 79 tb gb xs
  ne : ¬ In3 gb hb
/-- the document's three, behind their struct -/
structure IsRef (w : World) (hb : Nat) (tb gb : Nat → Nat) (xs : Nat → List Slot) : Prop where
  b : Blok w hb 63 [.pointer none, .pointer (some ⟨tb 1, 0, none⟩), .pointer (some ⟨tb 2, 0, none⟩), .pointer (some ⟨tb 3, 0, none⟩)]
  th : Three w 59 tb gb xs
  ne : ¬ In3 gb hb
section
variable {w w' : World} {hb : Nat} {tb gb : Nat → Nat} {xs : Nat → List Slot}
theorem IsHier.below (h : IsHier w hb tb gb xs) (k : Below w.heap.size w w') : IsHier w' hb tb gb xs := ⟨h.b.below k h.b.lt, h.th.below k, h.ne⟩
theorem IsRef.below (h : IsRef w hb tb gb xs) (k : Below w.heap.size w w') : IsRef w' hb tb gb xs := ⟨h.b.below k h.b.lt, h.th.below k, h.ne⟩
theorem IsHier.alloc (h : IsHier w hb tb gb xs) (o : Obj) : IsHier (w.alloc o) hb tb gb xs := h.below ((Below.refl _ _).alloc (Nat.le_refl _) o)
theorem IsRef.alloc (h : IsRef w hb tb gb xs) (o : Obj) : IsRef (w.alloc o) hb tb gb xs := h.below ((Below.refl _ _).alloc (Nat.le_refl _) o)
end
section
variable {w : World} {hb : Nat} {tb gb : Nat → Nat} {xs : Nat → List Slot}
theorem IsHier.c1 (h : IsHier w hb tb gb xs) : w.cell? ⟨hb, 0, none⟩ = some (.pointer (some ⟨tb 1, 0, none⟩)) := h.b.cell 0
theorem IsHier.c2 (h : IsHier w hb tb gb xs) : w.cell? ⟨hb, 1, none⟩ = some (.pointer (some ⟨tb 2, 0, none⟩)) := h.b.cell 1
theorem IsHier.c3 (h : IsHier w hb tb gb xs) : w.cell? ⟨hb, 2, none⟩ = some (.pointer (some ⟨tb 3, 0, none⟩)) := h.b.cell 2
end
theorem hier_which_yes (k : Nat) (h1 : 1 ≤ k) (h3 : k ≤ 3) (hb : Nat) (tb gb : Nat → Nat) (xs : Nat → List Slot) (w : World) (h : IsHier w hb tb gb xs) :
    Calls Try.prog 22 #[.pointer (some ⟨hb, 0, none⟩), .int .i64 k] w fun e w' => e = .returned (.pointer (some ⟨tb k, 0, none⟩)) ∧ w = w' := by
  have c1 := h.c1
  have c2 := h.c2
  have c3 := h.c3
  obtain rfl | rfl | rfl : k = 1 ∨ k = 2 ∨ k = 3 := by omega
  all_goals
    go_enter Try.func22, Try.ntmps22
    go_wp2
    go_ret
    exact ⟨rfl, rfl⟩
theorem hier_which_no (k : Int) (h1 : (k == 1) = false) (h2 : (k == 2) = false) (h3 : (k == 3) = false) (hb : Addr) (w : World) :
    Calls Try.prog 22 #[.pointer (some hb), .int .i64 k] w fun e w' => e = .returned (.pointer none) ∧ w = w' := by
  go_enter Try.func22, Try.ntmps22
  go_wp2
  go_ret
  exact ⟨rfl, rfl⟩
set_option maxHeartbeats 1600000 in
theorem hier_Places_yes (k : Nat) (h1 : 1 ≤ k) (h3 : k ≤ 3) (hb : Nat) (tb gb : Nat → Nat) (xs : Nat → List Slot) (w : World) (h : IsHier w hb tb gb xs) :
    Calls Try.prog 16 #[.pointer (some ⟨hb, 0, none⟩), .int .i64 k] w fun e w' => e = .returned (.slice (some ⟨w.heap.size, 0, none⟩) (xs k).length (xs k).length) ∧ Blok w' w.heap.size 54 (rowCells (xs k)) ∧ w'.heap.size = w.heap.size + 1 ∧ Below w.heap.size w w' := by
  have WH := Lib.hid (hier_which_yes k h1 h3 hb tb gb xs w h)
  have PL := Lib.hid (tlb_Places_is (tb k) (gb k) (xs k) w (h.th.t k h1 h3))
  go_enter Try.func16, Try.ntmps16
  go_wp2_with (first
    | (go_at_call 22; refine WH.out.mono ?_; rintro e w1 ⟨rfl, rfl⟩)
    | (go_at_call 23; refine PL.out.mono ?_; rintro e w2 ⟨rfl, hL, hz, hb2⟩))
  go_ret
  exact ⟨rfl, hL, hz, hb2⟩
theorem hier_Places_no (k : Int) (hk : k < 1 ∨ 3 < k) (hb : Addr) (w : World) :
    Calls Try.prog 16 #[.pointer (some hb), .int .i64 k] w fun e w' => e = .returned (.slice none 0 0) ∧ w = w' := by
  have WH := Lib.hid (hier_which_no k (beq_eq_false_iff_ne.2 (by omega)) (beq_eq_false_iff_ne.2 (by omega)) (beq_eq_false_iff_ne.2 (by omega)) hb w)
  clear hk
  go_enter Try.func16, Try.ntmps16
  go_wp2_with (go_at_call 22; refine WH.out.mono ?_; rintro e w1 ⟨rfl, rfl⟩)
  go_ret
  exact ⟨rfl, rfl⟩
section
variable {w : World} {hb : Nat} {tb gb : Nat → Nat} {xs : Nat → List Slot}
theorem IsRef.c1 (h : IsRef w hb tb gb xs) : w.cell? ⟨hb, 1, none⟩ = some (.pointer (some ⟨tb 1, 0, none⟩)) := h.b.cell 1
theorem IsRef.c2 (h : IsRef w hb tb gb xs) : w.cell? ⟨hb, 2, none⟩ = some (.pointer (some ⟨tb 2, 0, none⟩)) := h.b.cell 2
theorem IsRef.c3 (h : IsRef w hb tb gb xs) : w.cell? ⟨hb, 3, none⟩ = some (.pointer (some ⟨tb 3, 0, none⟩)) := h.b.cell 3
theorem IsRef.ck (h : IsRef w hb tb gb xs) (k : Nat) (h1 : 1 ≤ k) (h3 : k ≤ 3) : w.cell? ⟨hb, k, none⟩ = some (.pointer (some ⟨tb k, 0, none⟩)) := by
  obtain rfl | rfl | rfl : k = 1 ∨ k = 2 ∨ k = 3 := by omega
  · exact h.c1
  · exact h.c2
  · exact h.c3
end
set_option maxHeartbeats 800000 in
theorem ref_New_yes (n : Nat) (h1 : 1 ≤ n) (h2 : n ≤ 64) (w : World) :
    Calls Try.prog 25 #[.int .i64 n] w fun e w' => e = .returned (.tuple #[.pointer (some ⟨w.heap.size + 1, 0, none⟩), .int .i64 0]) ∧ IsTlb w' 59 54 (w.heap.size + 1) w.heap.size (newRow n) ∧ Below w.heap.size w w' := by
  have hmk := make_slots n h2
  go_enter Try.func25, Try.ntmps25
  go_wp2
  go_ret2
  have hlen : (newRow n).length = n := by simp [newRow]
  refine ⟨rfl, ⟨?_, ?_, by omega, by omega, by omega⟩, ((Below.refl _ _).alloc (Nat.le_refl _) _).alloc (by simp) _⟩
  · have := Blok.new (w.alloc (.cells (rowCells (newRow n)).toArray 54)) 59 [.slice (some ⟨w.heap.size, 0, none⟩) n n]
    rw [hlen]
    have e : (w.alloc (.cells (rowCells (newRow n)).toArray 54)).heap.size = w.heap.size + 1 := by simp
    rw [e] at this
    exact this
  · exact (Blok.new w _ _).alloc _
theorem ref_New_no (n : Int) (h : n < 1 ∨ 64 < n) (w : World) :
    Calls Try.prog 25 #[.int .i64 n] w fun e w' => e = .returned (.tuple #[.pointer none, .int .i64 100]) ∧ w = w' := by
  rcases h with h | h
  all_goals
    go_enter Try.func25, Try.ntmps25
    go_wp2
  all_goals
    go_ret2
    exact ⟨rfl, rfl⟩
/-- a row of places at the head of a block -/
def RowAt (w : World) (g : Nat) (xs : List Slot) : Prop := g < w.heap.size ∧ ∀ j v, (rowCells xs)[j]? = some v → w.cell? ⟨g, j, none⟩ = some v
theorem RowAt.below {w w' : World} {g : Nat} {xs : List Slot} (h : RowAt w g xs) (hb : Below w.heap.size w w') : RowAt w' g xs := ⟨Nat.lt_of_lt_of_le h.1 hb.size, fun j v hv => (hb.cell h.1).trans (h.2 j v hv)⟩
theorem RowAt.of {w : World} {g : Nat} {t : TypeId} {xs : List Slot} (h : Blok w g t (rowCells xs)) : RowAt w g xs := ⟨h.lt, fun j v hv => by rw [h.cell]; exact hv⟩
theorem RowAt.cells {w : World} {g : Nat} {xs : List Slot} (h : RowAt w g xs) (i : Nat) (s : Slot) (hs : xs[i]? = some s) (j : Nat) (hj : j < 10) : w.cell? ⟨g, i * 10 + j, none⟩ = (slotCells s)[j]? := by
  have e := rowCells_at xs i j s hs hj
  have hl : j < (slotCells s).length := by rw [slotCells_len]; exact hj
  rw [List.getElem?_eq_getElem hl] at e ⊢
  exact h.2 _ _ e
theorem RowAt.owns {w : World} {B g n cap : Nat} {xs : List Slot} (h : w.ownsRow B 54 10 (.slice (some ⟨g, 0, none⟩) n cap) n (rowCells xs)) (hn : 0 < n) : RowAt w g xs := by
  obtain ⟨hl, h⟩ := h
  rcases h with ⟨_, h0⟩ | ⟨g', cap', cur, hv, _, hg, _, _, _, ht⟩
  · omega
  · simp only [Value.slice.injEq, Option.some.injEq, Addr.mk.injEq] at hv
    obtain ⟨⟨rfl, _⟩, _⟩ := hv
    refine ⟨?_, fun j v hv => ?_⟩
    · rcases Nat.lt_or_ge g w.heap.size with hlt | hge
      · exact hlt
      · rw [Array.getElem?_eq_none hge] at hg; cases hg
    · rw [cell_of_row w g j cur _ _ hg]
      rw [← ht] at hv
      rw [List.getElem?_take] at hv
      split at hv
      · simpa using hv
      · cases hv
set_option maxHeartbeats 1600000 in
set_option maxRecDepth 100000 in
theorem ref11_Places_yes (k : Nat) (h1 : 1 ≤ k) (h3 : k ≤ 3) (hb : Nat) (tb gb : Nat → Nat) (xs : Nat → List Slot) (w : World) (h : IsRef w hb tb gb xs) :
    Calls Try.prog 17 #[.pointer (some ⟨hb, 0, none⟩), .int .i64 k] w fun e w' => ∃ g cap, e = .returned (.slice (some ⟨g, 0, none⟩) (xs k).length cap) ∧ RowAt w' g (xs k) ∧ w.heap.size ≤ g ∧ Below w.heap.size w w' := by
  have ck := h.ck k h1 h3
  have hT := h.th.t k h1 h3
  have hpos := hT.pos
  have hle := hT.le
  have t0 : w.cell? ⟨tb k, 0, none⟩ = some (.slice (some ⟨gb k, 0, none⟩) (xs k).length (xs k).length) := hT.hd.cell 0
  have i0 : (0 : Int) ≤ ↑k := by omega
  have i1 : (↑k : Int) < 4 := by omega
  obtain ⟨i0', hi, hz0, hz1, hz2⟩ := info_parts slot_info
  have hnews : ∀ j u, (rowCells (xs k))[j]? = some u → w.cell? ((⟨gb k, 0, none⟩ : Addr).add j) = some u := fun j u hu => by
    have := hT.sl.cell j
    unfold Addr.add
    by_cases f : j = 0
    · subst f; simpa [hu] using this
    · simpa [f, hu] using this
  have hone : ∀ v ∈ rowCells (xs k), v.oneCell' = true := fun v hv => by
    obtain ⟨s, _, hs⟩ := List.mem_flatMap.1 hv
    simp only [slotCells, List.mem_cons, List.not_mem_nil, or_false] at hs
    rcases hs with rfl | rfl | rfl | rfl | rfl | rfl | rfl | rfl | rfl | rfl <;> rfl
  have hrl := rowCells_len (xs k)
  obtain ⟨ys, hys⟩ : ∃ ys, xs k = ys := ⟨_, rfl⟩
  rw [hys] at hpos hle t0 hnews hone hrl ⊢
  have HL := Lib.hid hrl
  have HN := Lib.hid hnews
  have HO := Lib.hid hone
  clear hnews hone hrl hys hT
  go_enter Try.func17, Try.ntmps17
  go_wp2_with (refine wpList_append_lies _ rfl (.tmp 12) (.tmp 21) 36 rfl w.heap.size 54 i0' _ 10 64 Try.underlying36 hi hz0 hz1 hz2 rfl (by decide) (.slice none 0 0) 0 [] rfl ⟨rfl, .inl ⟨rfl, rfl⟩⟩ ⟨gb k, 0, none⟩ ys.length ys.length (rowCells ys) rfl HL.out HN.out HO.out hpos (by unfold maxLen; omega) (by omega) (Nat.le_refl _) w.heap.size rfl ?_; intro g cap w1 hown hgrow hat hlt)
  go_ret
  simp only [Nat.zero_add, List.nil_append] at hown
  have hgn : g = w.heap.size := by rcases hat with hat | hat; (simp [Value.ownBlock] at hat); exact hat
  exact ⟨g, cap, by simp, RowAt.owns hown hpos, by omega, ⟨hgrow.os, hgrow.tape, hgrow.output, hgrow.size, fun i hi => hgrow.block i hi (by simp [Value.ownBlock])⟩⟩
theorem ref11_Places_no (k : Int) (hk : k < 1 ∨ 3 < k) (hb : Addr) (w : World) :
    Calls Try.prog 17 #[.pointer (some hb), .int .i64 k] w fun e w' => e = .returned (.slice none 0 0) ∧ w = w' := by
  rcases hk with hk | hk
  all_goals
    go_enter Try.func17, Try.ntmps17
    go_wp2
  all_goals
    go_ret
    exact ⟨rfl, rfl⟩
def sel3 {α : Type} (a b c : α) (k : Nat) : α := if k = 1 then a else if k = 2 then b else c
theorem three_mk {w : World} {tt : TypeId} {t1 t2 t3 g1 g2 g3 : Nat} {x1 x2 x3 : List Slot} (h1 : IsTlb w tt 54 t1 g1 x1) (h2 : IsTlb w tt 54 t2 g2 x2) (h3 : IsTlb w tt 54 t3 g3 x3)
    (a1 : g1 < t1) (a2 : t1 < g2) (a3 : g2 < t2) (a4 : t2 < g3) (a5 : g3 < t3) : Three w tt (sel3 t1 t2 t3) (sel3 g1 g2 g3) (sel3 x1 x2 x3) := by
  have cs : ∀ k, 1 ≤ k → k ≤ 3 → k = 1 ∨ k = 2 ∨ k = 3 := by omega
  refine ⟨fun k a b => ?_, fun j k a b c d e => ?_, fun j k a b c d => ?_⟩
  · obtain rfl | rfl | rfl := cs k a b
    · exact h1
    · exact h2
    · exact h3
  · obtain rfl | rfl | rfl := cs j a b <;> obtain rfl | rfl | rfl := cs k c d <;> simp [sel3] at e ⊢ <;> omega
  · obtain rfl | rfl | rfl := cs j a b <;> obtain rfl | rfl | rfl := cs k c d <;> simp [sel3] <;> omega
/-- all of it lies from B on -/
def From (B hb : Nat) (tb gb : Nat → Nat) : Prop := B ≤ hb ∧ ∀ k, 1 ≤ k → k ≤ 3 → B ≤ tb k ∧ B ≤ gb k
def rows3 (n1 n2 n3 : Nat) : Nat → List Slot := sel3 (newRow n1) (newRow n2) (newRow n3)
theorem grown_setCell (w : World) (g o : Nat) (v : Value) : w.grownBy (w.setCell ⟨g, o, none⟩ v) (some g) := by
  have := (grown_setCells [v] (w := w) (g := g) o).1
  simpa [World.setCells] using this
set_option maxHeartbeats 3200000 in
set_option maxRecDepth 100000 in
theorem hier_New_yes (n1 n2 n3 : Nat) (a1 : 1 ≤ n1) (b1 : n1 ≤ 64) (a2 : 1 ≤ n2) (b2 : n2 ≤ 64) (a3 : 1 ≤ n3) (b3 : n3 ≤ 64) (w : World) :
    Calls Try.prog 20 #[.int .i64 n1, .int .i64 n2, .int .i64 n3] w fun e w' => ∃ hb tb gb, e = .returned (.tuple #[.pointer (some ⟨hb, 0, none⟩), .int .i64 0]) ∧ IsHier w' hb tb gb (rows3 n1 n2 n3) ∧ From w.heap.size hb tb gb ∧ Below w.heap.size w w' := by
  have N1 := Lib.hid (fun W => tlb_New_yes n1 a1 b1 W)
  have N2 := Lib.hid (fun W => tlb_New_yes n2 a2 b2 W)
  have N3 := Lib.hid (fun W => tlb_New_yes n3 a3 b3 W)
  have hL0 : Blok (w.alloc (.cells #[.pointer none, .pointer none, .pointer none] 64)) w.heap.size 64 [.pointer none, .pointer none, .pointer none] := Blok.new w _ _
  have x0 : ∀ W : World, (Instr.index 65 (.agg #[.int .i64 n1, .int .i64 n2, .int .i64 n3]) (.int .i64 0)).run Try.prog W = .ok (.int .i64 n1) W := fun _ => by kernel_rfl
  have x1 : ∀ W : World, (Instr.index 65 (.agg #[.int .i64 n1, .int .i64 n2, .int .i64 n3]) (.int .i64 1)).run Try.prog W = .ok (.int .i64 n2) W := fun _ => by kernel_rfl
  have x2 : ∀ W : World, (Instr.index 65 (.agg #[.int .i64 n1, .int .i64 n2, .int .i64 n3]) (.int .i64 2)).run Try.prog W = .ok (.int .i64 n3) W := fun _ => by kernel_rfl
  go_enter Try.func20, Try.ntmps20
  go_wp2
  refine wp_loop_rounds 4 ?_
  rw [rounds_succ]
  go_wp2_with (go_at_call 24; refine (N1.out _).mono ?_; rintro e w1 ⟨rfl, hT1, hb1⟩; have hL1 := hL0.below hb1 hL0.lt; have c1 := hL1.cell 0; have f1 := hL1.frozen 0; have l1 := hL1.lt)
  have T1 : IsTlb w1 79 54 (w.heap.size + 1 + 1) (w.heap.size + 1) (newRow n1) := by simpa using hT1
  have L1 := hL1.set_ 0 (.pointer (some ⟨w.heap.size + 1 + 1, 0, none⟩))
  have T1' := T1.far' (grown_setCell w1 w.heap.size 0 (.pointer (some ⟨w.heap.size + 1 + 1, 0, none⟩))) (by omega) (by omega)
  have B1 : Below w.heap.size w (w1.setCell ⟨w.heap.size, 0, none⟩ (.pointer (some ⟨w.heap.size + 1 + 1, 0, none⟩))) := (bbox (by simpa using hb1)).setCell (Nat.le_refl _) _
  simp only [List.set_cons_zero] at L1
  have q1 := T1'.hd.lt
  clear hb1 hT1 T1 hL1 c1 f1 l1
  generalize w1.setCell ⟨w.heap.size, 0, none⟩ (.pointer (some ⟨w.heap.size + 1 + 1, 0, none⟩)) = v1 at L1 T1' B1 q1 ⊢
  rw [rounds_succ]
  go_wp2_with (go_at_call 24; refine (N2.out _).mono ?_; rintro e w2 ⟨rfl, hT2, hb2⟩; have hL2 := L1.below hb2 L1.lt; have c2 := hL2.cell 1; have f2 := hL2.frozen 1; have l2 := hL2.lt)
  have L2 := hL2.set_ 1 (.pointer (some ⟨v1.heap.size + 1, 0, none⟩))
  have T2' := hT2.far' (grown_setCell w2 w.heap.size 1 (.pointer (some ⟨v1.heap.size + 1, 0, none⟩))) (by omega) (by omega)
  have T12 := (T1'.below hb2).far' (grown_setCell w2 w.heap.size 1 (.pointer (some ⟨v1.heap.size + 1, 0, none⟩))) (by omega) (by omega)
  have B2 : Below w.heap.size w (w2.setCell ⟨w.heap.size, 1, none⟩ (.pointer (some ⟨v1.heap.size + 1, 0, none⟩))) := (bthen B1 hb2).setCell (Nat.le_refl _) _
  simp only [List.set_cons_zero, List.set_cons_succ] at L2
  have q2 := T2'.hd.lt
  clear hb2 hT2 hL2 c2 f2 l2 T1' B1 L1
  generalize w2.setCell ⟨w.heap.size, 1, none⟩ (.pointer (some ⟨v1.heap.size + 1, 0, none⟩)) = v2 at L2 T2' T12 B2 q2 ⊢
  rw [rounds_succ]
  go_wp2_with (go_at_call 24; refine (N3.out _).mono ?_; rintro e w3 ⟨rfl, hT3, hb3⟩; have hL3 := L2.below hb3 L2.lt; have c3 := hL3.cell 2; have f3 := hL3.frozen 2; have l3 := hL3.lt)
  have L3 := hL3.set_ 2 (.pointer (some ⟨v2.heap.size + 1, 0, none⟩))
  have T3' := hT3.far' (grown_setCell w3 w.heap.size 2 (.pointer (some ⟨v2.heap.size + 1, 0, none⟩))) (by omega) (by omega)
  have T23 := (T2'.below hb3).far' (grown_setCell w3 w.heap.size 2 (.pointer (some ⟨v2.heap.size + 1, 0, none⟩))) (by omega) (by omega)
  have T13 := (T12.below hb3).far' (grown_setCell w3 w.heap.size 2 (.pointer (some ⟨v2.heap.size + 1, 0, none⟩))) (by omega) (by omega)
  have B3 : Below w.heap.size w (w3.setCell ⟨w.heap.size, 2, none⟩ (.pointer (some ⟨v2.heap.size + 1, 0, none⟩))) := (bthen B2 hb3).setCell (Nat.le_refl _) _
  simp only [List.set_cons_zero, List.set_cons_succ] at L3
  have q3 := T3'.hd.lt
  clear hb3 hT3 hL3 c3 f3 l3 T2' T12 B2 L2
  generalize w3.setCell ⟨w.heap.size, 2, none⟩ (.pointer (some ⟨v2.heap.size + 1, 0, none⟩)) = v3 at L3 T3' T23 T13 B3 q3 ⊢
  have d0 : v3.cell? ⟨w.heap.size, 0, none⟩ = some (.pointer (some ⟨w.heap.size + 1 + 1, 0, none⟩)) := L3.cell 0
  have d1 : v3.cell? ⟨w.heap.size, 1, none⟩ = some (.pointer (some ⟨v1.heap.size + 1, 0, none⟩)) := L3.cell 1
  have d2 : v3.cell? ⟨w.heap.size, 2, none⟩ = some (.pointer (some ⟨v2.heap.size + 1, 0, none⟩)) := L3.cell 2
  rw [rounds_succ]
  go_wp2
  go_ret2
  have hTh := three_mk T13 T23 T3' (by omega) (by omega) (by omega) (by omega) (by omega)
  refine ⟨v3.heap.size, sel3 (w.heap.size + 1 + 1) (v1.heap.size + 1) (v2.heap.size + 1), sel3 (w.heap.size + 1) v1.heap.size v2.heap.size, rfl, ⟨Blok.new v3 _ _, hTh.below ((Below.refl _ _).alloc (Nat.le_refl _) _), ?_⟩, ⟨by omega, fun k a b => ?_⟩, B3.alloc (by omega) _⟩
  · rintro ⟨k, a, b, e⟩
    obtain rfl | rfl | rfl : k = 1 ∨ k = 2 ∨ k = 3 := by omega
    all_goals simp [sel3] at e; try omega
  · obtain rfl | rfl | rfl : k = 1 ∨ k = 2 ∨ k = 3 := by omega
    all_goals simp [sel3] <;> omega
set_option maxHeartbeats 3200000 in
set_option maxRecDepth 100000 in
theorem hier_New_no1 (n1 n2 n3 : Int) (h1 : n1 < 1 ∨ 64 < n1) (w : World) :
    Calls Try.prog 20 #[.int .i64 n1, .int .i64 n2, .int .i64 n3] w fun e w' => e = .returned (.tuple #[.pointer none, .int .i64 100]) ∧ Below w.heap.size w w' := by
  have NN := Lib.hid (fun W => tlb_New_no n1 h1 W)
  have hL0 : Blok (w.alloc (.cells #[.pointer none, .pointer none, .pointer none] 64)) w.heap.size 64 [.pointer none, .pointer none, .pointer none] := Blok.new w _ _
  have x0 : ∀ W : World, (Instr.index 65 (.agg #[.int .i64 n1, .int .i64 n2, .int .i64 n3]) (.int .i64 0)).run Try.prog W = .ok (.int .i64 n1) W := fun _ => by kernel_rfl
  have x1 : ∀ W : World, (Instr.index 65 (.agg #[.int .i64 n1, .int .i64 n2, .int .i64 n3]) (.int .i64 1)).run Try.prog W = .ok (.int .i64 n2) W := fun _ => by kernel_rfl
  have x2 : ∀ W : World, (Instr.index 65 (.agg #[.int .i64 n1, .int .i64 n2, .int .i64 n3]) (.int .i64 2)).run Try.prog W = .ok (.int .i64 n3) W := fun _ => by kernel_rfl
  clear h1
  go_enter Try.func20, Try.ntmps20
  go_wp2
  refine wp_loop_rounds 4 ?_
  have B0 : Below w.heap.size w (w.alloc (.cells #[.pointer none, .pointer none, .pointer none] 64)) := (Below.refl _ _).alloc (Nat.le_refl _) _
  have _u := hL0
  rw [rounds_succ]
  go_wp2_with (go_at_call 24; refine (NN.out _).mono ?_; rintro e wn ⟨rfl, rfl⟩)
  go_ret2
  exact ⟨rfl, B0⟩
set_option maxHeartbeats 3200000 in
set_option maxRecDepth 100000 in
theorem hier_New_no2 (n1 : Nat) (n2 n3 : Int) (a1 : 1 ≤ n1) (b1 : n1 ≤ 64) (h2 : n2 < 1 ∨ 64 < n2) (w : World) :
    Calls Try.prog 20 #[.int .i64 n1, .int .i64 n2, .int .i64 n3] w fun e w' => e = .returned (.tuple #[.pointer none, .int .i64 100]) ∧ Below w.heap.size w w' := by
  have N1 := Lib.hid (fun W => tlb_New_yes n1 a1 b1 W)
  have NN := Lib.hid (fun W => tlb_New_no n2 h2 W)
  have hL0 : Blok (w.alloc (.cells #[.pointer none, .pointer none, .pointer none] 64)) w.heap.size 64 [.pointer none, .pointer none, .pointer none] := Blok.new w _ _
  have x0 : ∀ W : World, (Instr.index 65 (.agg #[.int .i64 n1, .int .i64 n2, .int .i64 n3]) (.int .i64 0)).run Try.prog W = .ok (.int .i64 n1) W := fun _ => by kernel_rfl
  have x1 : ∀ W : World, (Instr.index 65 (.agg #[.int .i64 n1, .int .i64 n2, .int .i64 n3]) (.int .i64 1)).run Try.prog W = .ok (.int .i64 n2) W := fun _ => by kernel_rfl
  have x2 : ∀ W : World, (Instr.index 65 (.agg #[.int .i64 n1, .int .i64 n2, .int .i64 n3]) (.int .i64 2)).run Try.prog W = .ok (.int .i64 n3) W := fun _ => by kernel_rfl
  clear h2
  go_enter Try.func20, Try.ntmps20
  go_wp2
  refine wp_loop_rounds 4 ?_
  have B0 : Below w.heap.size w (w.alloc (.cells #[.pointer none, .pointer none, .pointer none] 64)) := (Below.refl _ _).alloc (Nat.le_refl _) _
  rw [rounds_succ]
  go_wp2_with (go_at_call 24; refine (N1.out _).mono ?_; rintro e w1 ⟨rfl, hT1, hb1⟩; have hL1 := hL0.below hb1 hL0.lt; have c1 := hL1.cell 0; have f1 := hL1.frozen 0; have l1 := hL1.lt)
  have L1 := hL1.set_ 0 (.pointer (some ⟨w.heap.size + 1 + 1, 0, none⟩))
  have B1 : Below w.heap.size w (w1.setCell ⟨w.heap.size, 0, none⟩ (.pointer (some ⟨w.heap.size + 1 + 1, 0, none⟩))) := (bthen B0 hb1).setCell (Nat.le_refl _) _
  generalize w1.setCell ⟨w.heap.size, 0, none⟩ (.pointer (some ⟨w.heap.size + 1 + 1, 0, none⟩)) = v1 at L1 B1 ⊢
  clear hb1 hT1 hL1 c1 f1 l1
  rw [rounds_succ]
  go_wp2_with (go_at_call 24; refine (NN.out _).mono ?_; rintro e wn ⟨rfl, rfl⟩)
  go_ret2
  exact ⟨rfl, B1⟩
set_option maxHeartbeats 3200000 in
set_option maxRecDepth 100000 in
theorem hier_New_no3 (n1 n2 : Nat) (n3 : Int) (a1 : 1 ≤ n1) (b1 : n1 ≤ 64) (a2 : 1 ≤ n2) (b2 : n2 ≤ 64) (h3 : n3 < 1 ∨ 64 < n3) (w : World) :
    Calls Try.prog 20 #[.int .i64 n1, .int .i64 n2, .int .i64 n3] w fun e w' => e = .returned (.tuple #[.pointer none, .int .i64 100]) ∧ Below w.heap.size w w' := by
  have N1 := Lib.hid (fun W => tlb_New_yes n1 a1 b1 W)
  have N2 := Lib.hid (fun W => tlb_New_yes n2 a2 b2 W)
  have NN := Lib.hid (fun W => tlb_New_no n3 h3 W)
  have hL0 : Blok (w.alloc (.cells #[.pointer none, .pointer none, .pointer none] 64)) w.heap.size 64 [.pointer none, .pointer none, .pointer none] := Blok.new w _ _
  have x0 : ∀ W : World, (Instr.index 65 (.agg #[.int .i64 n1, .int .i64 n2, .int .i64 n3]) (.int .i64 0)).run Try.prog W = .ok (.int .i64 n1) W := fun _ => by kernel_rfl
  have x1 : ∀ W : World, (Instr.index 65 (.agg #[.int .i64 n1, .int .i64 n2, .int .i64 n3]) (.int .i64 1)).run Try.prog W = .ok (.int .i64 n2) W := fun _ => by kernel_rfl
  have x2 : ∀ W : World, (Instr.index 65 (.agg #[.int .i64 n1, .int .i64 n2, .int .i64 n3]) (.int .i64 2)).run Try.prog W = .ok (.int .i64 n3) W := fun _ => by kernel_rfl
  clear h3
  go_enter Try.func20, Try.ntmps20
  go_wp2
  refine wp_loop_rounds 4 ?_
  have B0 : Below w.heap.size w (w.alloc (.cells #[.pointer none, .pointer none, .pointer none] 64)) := (Below.refl _ _).alloc (Nat.le_refl _) _
  rw [rounds_succ]
  go_wp2_with (go_at_call 24; refine (N1.out _).mono ?_; rintro e w1 ⟨rfl, hT1, hb1⟩; have hL1 := hL0.below hb1 hL0.lt; have c1 := hL1.cell 0; have f1 := hL1.frozen 0; have l1 := hL1.lt)
  have L1 := hL1.set_ 0 (.pointer (some ⟨w.heap.size + 1 + 1, 0, none⟩))
  have B1 : Below w.heap.size w (w1.setCell ⟨w.heap.size, 0, none⟩ (.pointer (some ⟨w.heap.size + 1 + 1, 0, none⟩))) := (bthen B0 hb1).setCell (Nat.le_refl _) _
  generalize w1.setCell ⟨w.heap.size, 0, none⟩ (.pointer (some ⟨w.heap.size + 1 + 1, 0, none⟩)) = v1 at L1 B1 ⊢
  clear hb1 hT1 hL1 c1 f1 l1
  rw [rounds_succ]
  go_wp2_with (go_at_call 24; refine (N2.out _).mono ?_; rintro e w2 ⟨rfl, hT2, hb2⟩; have hL2 := L1.below hb2 L1.lt; have c2 := hL2.cell 1; have f2 := hL2.frozen 1; have l2 := hL2.lt)
  have L2 := hL2.set_ 1 (.pointer (some ⟨v1.heap.size + 1, 0, none⟩))
  have B2 : Below w.heap.size w (w2.setCell ⟨w.heap.size, 1, none⟩ (.pointer (some ⟨v1.heap.size + 1, 0, none⟩))) := (bthen B1 hb2).setCell (Nat.le_refl _) _
  generalize w2.setCell ⟨w.heap.size, 1, none⟩ (.pointer (some ⟨v1.heap.size + 1, 0, none⟩)) = v2 at L2 B2 ⊢
  clear hb2 hT2 hL2 c2 f2 l2
  rw [rounds_succ]
  go_wp2_with (go_at_call 24; refine (NN.out _).mono ?_; rintro e wn ⟨rfl, rfl⟩)
  go_ret2
  exact ⟨rfl, B2⟩
set_option maxHeartbeats 3200000 in
set_option maxRecDepth 100000 in
theorem ref11_New_yes (n1 n2 n3 : Nat) (a1 : 1 ≤ n1) (b1 : n1 ≤ 64) (a2 : 1 ≤ n2) (b2 : n2 ≤ 64) (a3 : 1 ≤ n3) (b3 : n3 ≤ 64) (w : World) :
    Calls Try.prog 21 #[.int .i64 n1, .int .i64 n2, .int .i64 n3] w fun e w' => ∃ hb tb gb, e = .returned (.tuple #[.pointer (some ⟨hb, 0, none⟩), .int .i64 0]) ∧ IsRef w' hb tb gb (rows3 n1 n2 n3) ∧ From w.heap.size hb tb gb ∧ Below w.heap.size w w' := by
  have N1 := Lib.hid (fun W => ref_New_yes n1 a1 b1 W)
  have N2 := Lib.hid (fun W => ref_New_yes n2 a2 b2 W)
  have N3 := Lib.hid (fun W => ref_New_yes n3 a3 b3 W)
  have hL0 : Blok ((w.alloc (.cells #[.pointer none, .pointer none, .pointer none, .pointer none] 63)).alloc (.cells #[.int .i64 0, .int .i64 n1, .int .i64 n2, .int .i64 n3] 75)) w.heap.size 63 [.pointer none, .pointer none, .pointer none, .pointer none] := (Blok.new w _ _).alloc _
  have hM0 : Blok ((w.alloc (.cells #[.pointer none, .pointer none, .pointer none, .pointer none] 63)).alloc (.cells #[.int .i64 0, .int .i64 n1, .int .i64 n2, .int .i64 n3] 75)) (w.heap.size + 1) 75 [.int .i64 0, .int .i64 n1, .int .i64 n2, .int .i64 n3] := by
    have := Blok.new (w.alloc (.cells #[.pointer none, .pointer none, .pointer none, .pointer none] 63)) 75 [.int .i64 0, .int .i64 n1, .int .i64 n2, .int .i64 n3]
    have e : (w.alloc (.cells #[.pointer none, .pointer none, .pointer none, .pointer none] 63)).heap.size = w.heap.size + 1 := by simp
    rwa [e] at this
  have B0 : Below w.heap.size w ((w.alloc (.cells #[.pointer none, .pointer none, .pointer none, .pointer none] 63)).alloc (.cells #[.int .i64 0, .int .i64 n1, .int .i64 n2, .int .i64 n3] 75)) := ((Below.refl _ _).alloc (Nat.le_refl _) _).alloc (by simp) _
  go_enter Try.func21, Try.ntmps21
  go_wp2
  refine wp_loop_rounds 4 ?_
  rw [rounds_succ]
  go_wp2_with (go_at_call 25; refine (N1.out _).mono ?_; rintro e w1 ⟨rfl, hT1, hb1⟩; have hL1 := hL0.below hb1 hL0.lt; have hM1 := hM0.below hb1 hM0.lt; have c1 := hL1.cell 1; have f1 := hL1.frozen 1; have l1 := hL1.lt)
  have hT1 : IsTlb w1 59 54 (w.heap.size + 1 + 1 + 1) (w.heap.size + 1 + 1) (newRow n1) := by simpa using hT1
  have L1 := hL1.set_ 1 (.pointer (some ⟨w.heap.size + 1 + 1 + 1, 0, none⟩))
  have M1 := hM1.far (p := ⟨w.heap.size, 1, none⟩) (by simp) (.pointer (some ⟨w.heap.size + 1 + 1 + 1, 0, none⟩))
  have T1 := hT1.far' (grown_setCell w1 w.heap.size 1 (.pointer (some ⟨w.heap.size + 1 + 1 + 1, 0, none⟩))) (by omega) (by omega)
  have B1 : Below w.heap.size w (w1.setCell ⟨w.heap.size, 1, none⟩ (.pointer (some ⟨w.heap.size + 1 + 1 + 1, 0, none⟩))) := (bthen B0 hb1).setCell (Nat.le_refl _) _
  simp only [List.set_cons_zero, List.set_cons_succ] at L1
  have q1 := T1.hd.lt
  clear hb1 hT1 hL1 hM1 c1 f1 l1
  generalize w1.setCell ⟨w.heap.size, 1, none⟩ (.pointer (some ⟨w.heap.size + 1 + 1 + 1, 0, none⟩)) = v1 at L1 M1 B1 T1 q1  ⊢
  have d2 : v1.cell? ⟨w.heap.size + 1, 2, none⟩ = some (.int .i64 n2) := M1.cell 2
  rw [rounds_succ]
  go_wp2_with (go_at_call 25; refine (N2.out _).mono ?_; rintro e w2 ⟨rfl, hT2, hb2⟩; have hL2 := L1.below hb2 L1.lt; have hM2 := M1.below hb2 M1.lt; have c2 := hL2.cell 2; have f2 := hL2.frozen 2; have l2 := hL2.lt)
  have L2 := hL2.set_ 2 (.pointer (some ⟨v1.heap.size + 1, 0, none⟩))
  have M2 := hM2.far (p := ⟨w.heap.size, 2, none⟩) (by simp) (.pointer (some ⟨v1.heap.size + 1, 0, none⟩))
  have T2 := hT2.far' (grown_setCell w2 w.heap.size 2 (.pointer (some ⟨v1.heap.size + 1, 0, none⟩))) (by omega) (by omega)
  have T1x := (T1.below hb2).far' (grown_setCell w2 w.heap.size 2 (.pointer (some ⟨v1.heap.size + 1, 0, none⟩))) (by omega) (by omega)
  have B2 : Below w.heap.size w (w2.setCell ⟨w.heap.size, 2, none⟩ (.pointer (some ⟨v1.heap.size + 1, 0, none⟩))) := (bthen B1 hb2).setCell (Nat.le_refl _) _
  simp only [List.set_cons_zero, List.set_cons_succ] at L2
  have q2 := T2.hd.lt
  clear hb2 hT2 hL2 hM2 c2 f2 l2
  generalize w2.setCell ⟨w.heap.size, 2, none⟩ (.pointer (some ⟨v1.heap.size + 1, 0, none⟩)) = v2 at L2 M2 B2 T2 q2 T1x ⊢
  have d3 : v2.cell? ⟨w.heap.size + 1, 3, none⟩ = some (.int .i64 n3) := M2.cell 3
  rw [rounds_succ]
  go_wp2_with (go_at_call 25; refine (N3.out _).mono ?_; rintro e w3 ⟨rfl, hT3, hb3⟩; have hL3 := L2.below hb3 L2.lt; have hM3 := M2.below hb3 M2.lt; have c3 := hL3.cell 3; have f3 := hL3.frozen 3; have l3 := hL3.lt)
  have L3 := hL3.set_ 3 (.pointer (some ⟨v2.heap.size + 1, 0, none⟩))
  have M3 := hM3.far (p := ⟨w.heap.size, 3, none⟩) (by simp) (.pointer (some ⟨v2.heap.size + 1, 0, none⟩))
  have T3 := hT3.far' (grown_setCell w3 w.heap.size 3 (.pointer (some ⟨v2.heap.size + 1, 0, none⟩))) (by omega) (by omega)
  have T1xx := (T1x.below hb3).far' (grown_setCell w3 w.heap.size 3 (.pointer (some ⟨v2.heap.size + 1, 0, none⟩))) (by omega) (by omega)
  have T2x := (T2.below hb3).far' (grown_setCell w3 w.heap.size 3 (.pointer (some ⟨v2.heap.size + 1, 0, none⟩))) (by omega) (by omega)
  have B3 : Below w.heap.size w (w3.setCell ⟨w.heap.size, 3, none⟩ (.pointer (some ⟨v2.heap.size + 1, 0, none⟩))) := (bthen B2 hb3).setCell (Nat.le_refl _) _
  simp only [List.set_cons_zero, List.set_cons_succ] at L3
  have q3 := T3.hd.lt
  clear hb3 hT3 hL3 hM3 c3 f3 l3
  generalize w3.setCell ⟨w.heap.size, 3, none⟩ (.pointer (some ⟨v2.heap.size + 1, 0, none⟩)) = v3 at L3 M3 B3 T3 q3 T1xx T2x ⊢
  rw [rounds_succ]
  go_wp2
  go_ret2
  have hTh := three_mk T1xx T2x T3 (by omega) (by omega) (by omega) (by omega) (by omega)
  refine ⟨w.heap.size, sel3 (w.heap.size + 1 + 1 + 1) (v1.heap.size + 1) (v2.heap.size + 1), sel3 (w.heap.size + 1 + 1) v1.heap.size v2.heap.size, rfl, ⟨L3, hTh, ?_⟩, ⟨by omega, fun k a b => ?_⟩, B3⟩
  · rintro ⟨k, a, b, e⟩
    obtain rfl | rfl | rfl : k = 1 ∨ k = 2 ∨ k = 3 := by omega
    all_goals simp [sel3] at e; try omega
  · obtain rfl | rfl | rfl : k = 1 ∨ k = 2 ∨ k = 3 := by omega
    all_goals simp [sel3] <;> omega
set_option maxHeartbeats 3200000 in
set_option maxRecDepth 100000 in
theorem ref11_New_no1 (n1 n2 n3 : Int) (h1 : n1 < 1 ∨ 64 < n1) (w : World) :
    Calls Try.prog 21 #[.int .i64 n1, .int .i64 n2, .int .i64 n3] w fun e w' => e = .returned (.tuple #[.pointer none, .int .i64 100]) ∧ Below w.heap.size w w' := by
  have NN := Lib.hid (fun W => ref_New_no n1 h1 W)
  clear h1
  have hL0 : Blok ((w.alloc (.cells #[.pointer none, .pointer none, .pointer none, .pointer none] 63)).alloc (.cells #[.int .i64 0, .int .i64 n1, .int .i64 n2, .int .i64 n3] 75)) w.heap.size 63 [.pointer none, .pointer none, .pointer none, .pointer none] := (Blok.new w _ _).alloc _
  have hM0 : Blok ((w.alloc (.cells #[.pointer none, .pointer none, .pointer none, .pointer none] 63)).alloc (.cells #[.int .i64 0, .int .i64 n1, .int .i64 n2, .int .i64 n3] 75)) (w.heap.size + 1) 75 [.int .i64 0, .int .i64 n1, .int .i64 n2, .int .i64 n3] := by
    have := Blok.new (w.alloc (.cells #[.pointer none, .pointer none, .pointer none, .pointer none] 63)) 75 [.int .i64 0, .int .i64 n1, .int .i64 n2, .int .i64 n3]
    have e : (w.alloc (.cells #[.pointer none, .pointer none, .pointer none, .pointer none] 63)).heap.size = w.heap.size + 1 := by simp
    rwa [e] at this
  have B0 : Below w.heap.size w ((w.alloc (.cells #[.pointer none, .pointer none, .pointer none, .pointer none] 63)).alloc (.cells #[.int .i64 0, .int .i64 n1, .int .i64 n2, .int .i64 n3] 75)) := ((Below.refl _ _).alloc (Nat.le_refl _) _).alloc (by simp) _
  go_enter Try.func21, Try.ntmps21
  go_wp2
  refine wp_loop_rounds 4 ?_
  rw [rounds_succ]
  go_wp2_with (go_at_call 25; refine (NN.out _).mono ?_; rintro e wn ⟨rfl, rfl⟩)
  go_ret2
  exact ⟨rfl, B0⟩
set_option maxHeartbeats 3200000 in
set_option maxRecDepth 100000 in
theorem ref11_New_no2 (n1 : Nat) (n2 n3 : Int) (a1 : 1 ≤ n1) (b1 : n1 ≤ 64) (h2 : n2 < 1 ∨ 64 < n2) (w : World) :
    Calls Try.prog 21 #[.int .i64 n1, .int .i64 n2, .int .i64 n3] w fun e w' => e = .returned (.tuple #[.pointer none, .int .i64 100]) ∧ Below w.heap.size w w' := by
  have N1 := Lib.hid (fun W => ref_New_yes n1 a1 b1 W)
  have NN := Lib.hid (fun W => ref_New_no n2 h2 W)
  clear h2
  have hL0 : Blok ((w.alloc (.cells #[.pointer none, .pointer none, .pointer none, .pointer none] 63)).alloc (.cells #[.int .i64 0, .int .i64 n1, .int .i64 n2, .int .i64 n3] 75)) w.heap.size 63 [.pointer none, .pointer none, .pointer none, .pointer none] := (Blok.new w _ _).alloc _
  have hM0 : Blok ((w.alloc (.cells #[.pointer none, .pointer none, .pointer none, .pointer none] 63)).alloc (.cells #[.int .i64 0, .int .i64 n1, .int .i64 n2, .int .i64 n3] 75)) (w.heap.size + 1) 75 [.int .i64 0, .int .i64 n1, .int .i64 n2, .int .i64 n3] := by
    have := Blok.new (w.alloc (.cells #[.pointer none, .pointer none, .pointer none, .pointer none] 63)) 75 [.int .i64 0, .int .i64 n1, .int .i64 n2, .int .i64 n3]
    have e : (w.alloc (.cells #[.pointer none, .pointer none, .pointer none, .pointer none] 63)).heap.size = w.heap.size + 1 := by simp
    rwa [e] at this
  have B0 : Below w.heap.size w ((w.alloc (.cells #[.pointer none, .pointer none, .pointer none, .pointer none] 63)).alloc (.cells #[.int .i64 0, .int .i64 n1, .int .i64 n2, .int .i64 n3] 75)) := ((Below.refl _ _).alloc (Nat.le_refl _) _).alloc (by simp) _
  go_enter Try.func21, Try.ntmps21
  go_wp2
  refine wp_loop_rounds 4 ?_
  rw [rounds_succ]
  go_wp2_with (go_at_call 25; refine (N1.out _).mono ?_; rintro e w1 ⟨rfl, hT1, hb1⟩; have hL1 := hL0.below hb1 hL0.lt; have hM1 := hM0.below hb1 hM0.lt; have c1 := hL1.cell 1; have f1 := hL1.frozen 1; have l1 := hL1.lt)
  have L1 := hL1.set_ 1 (.pointer (some ⟨w.heap.size + 1 + 1 + 1, 0, none⟩))
  have M1 := hM1.far (p := ⟨w.heap.size, 1, none⟩) (by simp) (.pointer (some ⟨w.heap.size + 1 + 1 + 1, 0, none⟩))
  have B1 : Below w.heap.size w (w1.setCell ⟨w.heap.size, 1, none⟩ (.pointer (some ⟨w.heap.size + 1 + 1 + 1, 0, none⟩))) := (bthen B0 hb1).setCell (Nat.le_refl _) _
  simp only [List.set_cons_zero, List.set_cons_succ] at L1
  clear hb1 hT1 hL1 hM1 c1 f1 l1
  generalize w1.setCell ⟨w.heap.size, 1, none⟩ (.pointer (some ⟨w.heap.size + 1 + 1 + 1, 0, none⟩)) = v1 at L1 M1 B1 ⊢
  have d2 : v1.cell? ⟨w.heap.size + 1, 2, none⟩ = some (.int .i64 n2) := M1.cell 2
  rw [rounds_succ]
  go_wp2_with (go_at_call 25; refine (NN.out _).mono ?_; rintro e wn ⟨rfl, rfl⟩)
  go_ret2
  exact ⟨rfl, B1⟩
set_option maxHeartbeats 3200000 in
set_option maxRecDepth 100000 in
theorem ref11_New_no3 (n1 n2 : Nat) (n3 : Int) (a1 : 1 ≤ n1) (b1 : n1 ≤ 64) (a2 : 1 ≤ n2) (b2 : n2 ≤ 64) (h3 : n3 < 1 ∨ 64 < n3) (w : World) :
    Calls Try.prog 21 #[.int .i64 n1, .int .i64 n2, .int .i64 n3] w fun e w' => e = .returned (.tuple #[.pointer none, .int .i64 100]) ∧ Below w.heap.size w w' := by
  have N1 := Lib.hid (fun W => ref_New_yes n1 a1 b1 W)
  have N2 := Lib.hid (fun W => ref_New_yes n2 a2 b2 W)
  have NN := Lib.hid (fun W => ref_New_no n3 h3 W)
  clear h3
  have hL0 : Blok ((w.alloc (.cells #[.pointer none, .pointer none, .pointer none, .pointer none] 63)).alloc (.cells #[.int .i64 0, .int .i64 n1, .int .i64 n2, .int .i64 n3] 75)) w.heap.size 63 [.pointer none, .pointer none, .pointer none, .pointer none] := (Blok.new w _ _).alloc _
  have hM0 : Blok ((w.alloc (.cells #[.pointer none, .pointer none, .pointer none, .pointer none] 63)).alloc (.cells #[.int .i64 0, .int .i64 n1, .int .i64 n2, .int .i64 n3] 75)) (w.heap.size + 1) 75 [.int .i64 0, .int .i64 n1, .int .i64 n2, .int .i64 n3] := by
    have := Blok.new (w.alloc (.cells #[.pointer none, .pointer none, .pointer none, .pointer none] 63)) 75 [.int .i64 0, .int .i64 n1, .int .i64 n2, .int .i64 n3]
    have e : (w.alloc (.cells #[.pointer none, .pointer none, .pointer none, .pointer none] 63)).heap.size = w.heap.size + 1 := by simp
    rwa [e] at this
  have B0 : Below w.heap.size w ((w.alloc (.cells #[.pointer none, .pointer none, .pointer none, .pointer none] 63)).alloc (.cells #[.int .i64 0, .int .i64 n1, .int .i64 n2, .int .i64 n3] 75)) := ((Below.refl _ _).alloc (Nat.le_refl _) _).alloc (by simp) _
  go_enter Try.func21, Try.ntmps21
  go_wp2
  refine wp_loop_rounds 4 ?_
  rw [rounds_succ]
  go_wp2_with (go_at_call 25; refine (N1.out _).mono ?_; rintro e w1 ⟨rfl, hT1, hb1⟩; have hL1 := hL0.below hb1 hL0.lt; have hM1 := hM0.below hb1 hM0.lt; have c1 := hL1.cell 1; have f1 := hL1.frozen 1; have l1 := hL1.lt)
  have L1 := hL1.set_ 1 (.pointer (some ⟨w.heap.size + 1 + 1 + 1, 0, none⟩))
  have M1 := hM1.far (p := ⟨w.heap.size, 1, none⟩) (by simp) (.pointer (some ⟨w.heap.size + 1 + 1 + 1, 0, none⟩))
  have B1 : Below w.heap.size w (w1.setCell ⟨w.heap.size, 1, none⟩ (.pointer (some ⟨w.heap.size + 1 + 1 + 1, 0, none⟩))) := (bthen B0 hb1).setCell (Nat.le_refl _) _
  simp only [List.set_cons_zero, List.set_cons_succ] at L1
  clear hb1 hT1 hL1 hM1 c1 f1 l1
  generalize w1.setCell ⟨w.heap.size, 1, none⟩ (.pointer (some ⟨w.heap.size + 1 + 1 + 1, 0, none⟩)) = v1 at L1 M1 B1 ⊢
  have d2 : v1.cell? ⟨w.heap.size + 1, 2, none⟩ = some (.int .i64 n2) := M1.cell 2
  rw [rounds_succ]
  go_wp2_with (go_at_call 25; refine (N2.out _).mono ?_; rintro e w2 ⟨rfl, hT2, hb2⟩; have hL2 := L1.below hb2 L1.lt; have hM2 := M1.below hb2 M1.lt; have c2 := hL2.cell 2; have f2 := hL2.frozen 2; have l2 := hL2.lt)
  have L2 := hL2.set_ 2 (.pointer (some ⟨v1.heap.size + 1, 0, none⟩))
  have M2 := hM2.far (p := ⟨w.heap.size, 2, none⟩) (by simp) (.pointer (some ⟨v1.heap.size + 1, 0, none⟩))
  have B2 : Below w.heap.size w (w2.setCell ⟨w.heap.size, 2, none⟩ (.pointer (some ⟨v1.heap.size + 1, 0, none⟩))) := (bthen B1 hb2).setCell (Nat.le_refl _) _
  simp only [List.set_cons_zero, List.set_cons_succ] at L2
  clear hb2 hT2 hL2 hM2 c2 f2 l2
  generalize w2.setCell ⟨w.heap.size, 2, none⟩ (.pointer (some ⟨v1.heap.size + 1, 0, none⟩)) = v2 at L2 M2 B2 ⊢
  have d3 : v2.cell? ⟨w.heap.size + 1, 3, none⟩ = some (.int .i64 n3) := M2.cell 3
  rw [rounds_succ]
  go_wp2_with (go_at_call 25; refine (NN.out _).mono ?_; rintro e wn ⟨rfl, rfl⟩)
  go_ret2
  exact ⟨rfl, B2⟩
theorem neq_slot_self (f : Bool) (b : Blk) (w : World) : (binOp .neq 54 (.agg #[.bool f, .int .i64 b.asid, .int .i64 b.size, .int .u32 b.va, .int .u64 b.pa, .int .i64 b.dom, .int .i64 b.ap, .int .u32 b.bits, .bool b.ng, .bool b.xn]) (.agg #[.bool f, .int .i64 b.asid, .int .i64 b.size, .int .u32 b.va, .int .u64 b.pa, .int .i64 b.dom, .int .i64 b.ap, .int .u32 b.bits, .bool b.ng, .bool b.xn])).run Try.prog w = .ok (.bool false) w := by
  have h : (Op.equalIn (9995 + 5) 54 (.agg #[.bool f, .int .i64 b.asid, .int .i64 b.size, .int .u32 b.va, .int .u64 b.pa, .int .i64 b.dom, .int .i64 b.ap, .int .u32 b.bits, .bool b.ng, .bool b.xn]) (.agg #[.bool f, .int .i64 b.asid, .int .i64 b.size, .int .u32 b.va, .int .u64 b.pa, .int .i64 b.dom, .int .i64 b.ap, .int .u32 b.bits, .bool b.ng, .bool b.xn])).run Try.prog w = .ok true w := by simp [go_sem]
  rw [run_neq_struct, h]; rfl
set_option maxHeartbeats 3200000 in
set_option maxRecDepth 100000 in
theorem slots_is (ga gb n ca cb : Nat) (xs : List Slot) (hn : xs.length = n) (hl2 : n ≤ 64) (w : World) (ha : RowAt w ga xs) (hb : RowAt w gb xs) :
    Calls Try.prog 15 #[.slice (some ⟨ga, 0, none⟩) n ca, .slice (some ⟨gb, 0, none⟩) n cb] w fun e w' => e = .returned (.bool true) ∧ Below w.heap.size w w' := by
  have HN := Lib.hid hn
  clear hn
  go_enter Try.func15, Try.ntmps15
  go_wp2
  go_loopw [5] (fun v5 wr => ∃ k : Nat, k ≤ n ∧ v5 = .int .i64 k ∧ Below w.heap.size w wr) (fun v5 _ => n - (intOf v5).toNat)
  case atStart => exact ⟨0, Nat.zero_le _, rfl, Below.refl _ _⟩
  case round =>
    obtain ⟨k, hk, rfl, hB⟩ := hrel
    have hra := ha.below hB
    have hrb := hb.below hB
    by_cases hlt : k < n
    · obtain ⟨s, hsk⟩ : ∃ s, xs[k]? = some s := ⟨_, List.getElem?_eq_getElem (by rw [HN.out]; exact hlt)⟩
      obtain ⟨full, b⟩ := s
      have hca := hra.cells k _ hsk
      have hcb := hrb.cells k _ hsk
      have hne := neq_slot_self full b
      clear hsk
      (have d0 : (wr).cell? ⟨ga, k * 10, none⟩ = some (.bool full) := hca 0 (by omega); have d1 : (wr).cell? ⟨ga, k * 10 + 1, none⟩ = some (.int .i64 b.asid) := hca 1 (by omega); have d2 : (wr).cell? ⟨ga, k * 10 + 2, none⟩ = some (.int .i64 b.size) := hca 2 (by omega); have d3 : (wr).cell? ⟨ga, k * 10 + 3, none⟩ = some (.int .u32 b.va) := hca 3 (by omega); have d4 : (wr).cell? ⟨ga, k * 10 + 4, none⟩ = some (.int .u64 b.pa) := hca 4 (by omega); have d5 : (wr).cell? ⟨ga, k * 10 + 5, none⟩ = some (.int .i64 b.dom) := hca 5 (by omega); have d6 : (wr).cell? ⟨ga, k * 10 + 6, none⟩ = some (.int .i64 b.ap) := hca 6 (by omega); have d7 : (wr).cell? ⟨ga, k * 10 + 7, none⟩ = some (.int .u32 b.bits) := hca 7 (by omega); have d8 : (wr).cell? ⟨ga, k * 10 + 8, none⟩ = some (.bool b.ng) := hca 8 (by omega); have d9 : (wr).cell? ⟨ga, k * 10 + 9, none⟩ = some (.bool b.xn) := hca 9 (by omega))
      (have e0 : (wr).cell? ⟨gb, k * 10, none⟩ = some (.bool full) := hcb 0 (by omega); have e1 : (wr).cell? ⟨gb, k * 10 + 1, none⟩ = some (.int .i64 b.asid) := hcb 1 (by omega); have e2 : (wr).cell? ⟨gb, k * 10 + 2, none⟩ = some (.int .i64 b.size) := hcb 2 (by omega); have e3 : (wr).cell? ⟨gb, k * 10 + 3, none⟩ = some (.int .u32 b.va) := hcb 3 (by omega); have e4 : (wr).cell? ⟨gb, k * 10 + 4, none⟩ = some (.int .u64 b.pa) := hcb 4 (by omega); have e5 : (wr).cell? ⟨gb, k * 10 + 5, none⟩ = some (.int .i64 b.dom) := hcb 5 (by omega); have e6 : (wr).cell? ⟨gb, k * 10 + 6, none⟩ = some (.int .i64 b.ap) := hcb 6 (by omega); have e7 : (wr).cell? ⟨gb, k * 10 + 7, none⟩ = some (.int .u32 b.bits) := hcb 7 (by omega); have e8 : (wr).cell? ⟨gb, k * 10 + 8, none⟩ = some (.bool b.ng) := hcb 8 (by omega); have e9 : (wr).cell? ⟨gb, k * 10 + 9, none⟩ = some (.bool b.xn) := hcb 9 (by omega))
      clear hca hcb
      go_wp2_with fail
      go_quiet (fail)
      go_wp2
      go_roundw
      case rel => exact ⟨k + 1, by omega, by go_num, bdrewN hB _⟩
      case measure => simp [intOf]; omega
    · go_wp2
      go_ret
      exact ⟨rfl, hB⟩
theorem slots_nil (w : World) : Calls Try.prog 15 #[.slice none 0 0, .slice none 0 0] w fun e w' => e = .returned (.bool true) ∧ w = w' := by
  go_enter Try.func15, Try.ntmps15
  go_wp2
  refine wp_loop_rounds 1 ?_
  rw [rounds_succ]
  go_wp2
  go_ret
  exact ⟨rfl, rfl⟩
def Ok1 (n : Int) : Prop := 1 ≤ n ∧ n ≤ 64
set_option maxHeartbeats 1600000 in
theorem both_no1 (n1 n2 n3 : Int) (h1 : n1 < 1 ∨ 64 < n1) (w : World) :
    Calls Try.prog 14 #[.int .i64 n1, .int .i64 n2, .int .i64 n3] w fun e w' => e = .returned (.tuple #[.pointer none, .pointer none, .bool true]) ∧ Below w.heap.size w w' := by
  have HN := Lib.hid (hier_New_no1 n1 n2 n3 h1 w)
  have RN := Lib.hid (fun W => ref11_New_no1 n1 n2 n3 h1 W)
  go_enter Try.func14, Try.ntmps14
  go_wp2_with (first
    | (go_at_call 21; refine (RN.out _).mono ?_; rintro e w2 ⟨rfl, hB2⟩)
    | (go_at_call 20; refine HN.out.mono ?_; rintro e w1 ⟨rfl, hB1⟩))
  go_ret3
  exact ⟨rfl, bthen hB1 hB2⟩
set_option maxHeartbeats 1600000 in
theorem both_no2 (n1 : Nat) (n2 n3 : Int) (a1 : 1 ≤ n1) (b1 : n1 ≤ 64) (h2 : n2 < 1 ∨ 64 < n2) (w : World) :
    Calls Try.prog 14 #[.int .i64 n1, .int .i64 n2, .int .i64 n3] w fun e w' => e = .returned (.tuple #[.pointer none, .pointer none, .bool true]) ∧ Below w.heap.size w w' := by
  have HN := Lib.hid (hier_New_no2 n1 n2 n3 a1 b1 h2 w)
  have RN := Lib.hid (fun W => ref11_New_no2 n1 n2 n3 a1 b1 h2 W)
  go_enter Try.func14, Try.ntmps14
  go_wp2_with (first
    | (go_at_call 21; refine (RN.out _).mono ?_; rintro e w2 ⟨rfl, hB2⟩)
    | (go_at_call 20; refine HN.out.mono ?_; rintro e w1 ⟨rfl, hB1⟩))
  go_ret3
  exact ⟨rfl, bthen hB1 hB2⟩
set_option maxHeartbeats 1600000 in
theorem both_no3 (n1 n2 : Nat) (n3 : Int) (a1 : 1 ≤ n1) (b1 : n1 ≤ 64) (a2 : 1 ≤ n2) (b2 : n2 ≤ 64) (h3 : n3 < 1 ∨ 64 < n3) (w : World) :
    Calls Try.prog 14 #[.int .i64 n1, .int .i64 n2, .int .i64 n3] w fun e w' => e = .returned (.tuple #[.pointer none, .pointer none, .bool true]) ∧ Below w.heap.size w w' := by
  have HN := Lib.hid (hier_New_no3 n1 n2 n3 a1 b1 a2 b2 h3 w)
  have RN := Lib.hid (fun W => ref11_New_no3 n1 n2 n3 a1 b1 a2 b2 h3 W)
  go_enter Try.func14, Try.ntmps14
  go_wp2_with (first
    | (go_at_call 21; refine (RN.out _).mono ?_; rintro e w2 ⟨rfl, hB2⟩)
    | (go_at_call 20; refine HN.out.mono ?_; rintro e w1 ⟨rfl, hB1⟩))
  go_ret3
  exact ⟨rfl, bthen hB1 hB2⟩
theorem both_no (n1 n2 n3 : Int) (h : ¬ (Ok1 n1 ∧ Ok1 n2 ∧ Ok1 n3)) (w : World) :
    Calls Try.prog 14 #[.int .i64 n1, .int .i64 n2, .int .i64 n3] w fun e w' => e = .returned (.tuple #[.pointer none, .pointer none, .bool true]) ∧ Below w.heap.size w w' := by
  unfold Ok1 at h
  by_cases h1 : 1 ≤ n1 ∧ n1 ≤ 64
  · obtain ⟨m1, rfl⟩ := Int.eq_ofNat_of_zero_le (show 0 ≤ n1 by omega)
    by_cases h2 : 1 ≤ n2 ∧ n2 ≤ 64
    · obtain ⟨m2, rfl⟩ := Int.eq_ofNat_of_zero_le (show 0 ≤ n2 by omega)
      exact both_no3 m1 m2 n3 (by omega) (by omega) (by omega) (by omega) (by omega) w
    · exact both_no2 m1 n2 n3 (by omega) (by omega) (by omega) w
  · exact both_no1 n1 n2 n3 (by omega) w
end Go.Proofs.Ytakihcdolpocjaa
