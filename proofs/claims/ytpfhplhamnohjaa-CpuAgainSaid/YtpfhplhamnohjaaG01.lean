/- Layer 19: bits of a word, and what the small functions answer. Layer 19: instructions that are made of a word. -/
import Derived.Test.YtpfhplhamnohjaaG00
import Derived.Laws.BitsAllLaws
namespace Go.Proofs.Ytpfhplhamnohjaa
set_option maxHeartbeats 25600000
set_option maxRecDepth 100000
open Go.RowKit

theorem fld_le (w : Int) (hi lo : Nat) : 0 ≤ fld w hi lo ∧ fld w hi lo < 2 ^ (hi - lo + 1) := by
  have : (0 : Int) < 2 ^ (hi - lo + 1) := Int.pow_pos (by decide)
  exact ⟨Int.emod_nonneg _ (by omega), Int.emod_lt_of_pos _ this⟩
theorem pow_le32 (k : Nat) (hk : k ≤ 32) : 2 ^ k ≤ 4294967296 := Nat.le_trans (Nat.pow_le_pow_right (by decide) hk) (by decide)
theorem and_mask (n k : Nat) (hn : n < 4294967296) (hk : k ≤ 32) : bits .and .u32 (n : Int) ((2 ^ k - 1) % 4294967296) = ((n % 2 ^ k : Nat) : Int) := by
  have h1 := pow_le32 k hk
  have h2 : 0 < 2 ^ k := Nat.pow_pos (by decide)
  have e1 : ((2 : Int) ^ k - 1) % 4294967296 = ((2 ^ k - 1 : Nat) : Int) := by
    have : ((2 : Int) ^ k) = ((2 ^ k : Nat) : Int) := by simp
    rw [this]; omega
  rw [e1, u32_and_nat n (2 ^ k - 1) hn (by omega), Nat.and_two_pow_sub_one_eq_mod]
theorem fld_eq (w : Int) (h0 : 0 ≤ w) (h1 : w < 4294967296) (hi lo : Nat) (hh : hi ≤ 31) : wrap64 (bits .and .u32 (w / 2 ^ lo) ((2 ^ (hi - lo + 1) - 1) % 4294967296)) = fld w hi lo := by
  obtain ⟨n, rfl⟩ := Int.eq_ofNat_of_zero_le h0
  have e : (n : Int) / 2 ^ lo = ((n / 2 ^ lo : Nat) : Int) := by simp
  have h2 : n / 2 ^ lo ≤ n := Nat.div_le_self _ _
  rw [e, and_mask _ _ (by omega) (by omega)]
  unfold fld
  rw [e]
  have h3 : n / 2 ^ lo % 2 ^ (hi - lo + 1) ≤ n / 2 ^ lo := Nat.mod_le _ _
  have h4 : wrap64 ((n / 2 ^ lo % 2 ^ (hi - lo + 1) : Nat) : Int) = ((n / 2 ^ lo % 2 ^ (hi - lo + 1) : Nat) : Int) := by unfold wrap64; omega
  rw [h4]; simp
theorem get_is (w : Int) (h0 : 0 ≤ w) (h1 : w < 4294967296) (hi lo : Nat) (hl : lo ≤ hi) (hh : hi ≤ 31) (W : World) :
    Calls Try.prog 38 #[.int .u32 w, .int .u64 hi, .int .u64 lo] W fun e w' => e = .returned (.int .i64 (fld w hi lo)) ∧ W = w' := by
  have HE := Lib.hid (fld_eq w h0 h1 hi lo hh)
  go_enter Try.func38, Try.ntmps38
  go_wp2
  go_ret
  exact ⟨congrArg (fun x => Ending.returned (.int .i64 x)) HE.out, rfl⟩
theorem bt_eq (w : Int) (h0 : 0 ≤ w) (h1 : w < 4294967296) (i : Nat) : (bits .and .u32 (w / 2 ^ i) 1 == 1) = bt w i := by
  obtain ⟨n, rfl⟩ := Int.eq_ofNat_of_zero_le h0
  have e : (n : Int) / 2 ^ i = ((n / 2 ^ i : Nat) : Int) := by simp
  have h2 : n / 2 ^ i ≤ n := Nat.div_le_self _ _
  have h := and_mask (n / 2 ^ i) 1 (by omega) (by omega)
  simp only [Int.pow_one] at h
  have e2 : ((2 : Int) ^ 1 - 1) % 4294967296 = 1 := by decide
  unfold bt
  rw [e]
  have h' : bits .and .u32 ((n / 2 ^ i : Nat) : Int) 1 = ((n / 2 ^ i % 2 : Nat) : Int) := by simpa using h
  rw [h', Bool.eq_iff_iff]
  simp
theorem bit_is (w : Int) (h0 : 0 ≤ w) (h1 : w < 4294967296) (i : Nat) (hh : i ≤ 31) (W : World) :
    Calls Try.prog 41 #[.int .u32 w, .int .u64 i] W fun e w' => e = .returned (.bool (bt w i)) ∧ W = w' := by
  have HE := Lib.hid (bt_eq w h0 h1 i)
  go_enter Try.func41, Try.ntmps41
  go_wp2
  go_ret
  exact ⟨congrArg (fun x => Ending.returned (.bool x)) HE.out, rfl⟩
theorem compares_is (op : Int) (W : World) : Calls Try.prog 76 #[.int .i64 op] W fun e w' => e = .returned (.bool (comparesB op)) ∧ W = w' := by
  by_cases h : 9 ≤ op
  · have e : comparesB op = decide (op ≤ 12) := by simp [comparesB, h]
    have HE := Lib.hid e
    clear e
    go_enter Try.func76, Try.ntmps76
    go_wp2
    go_ret
    exact ⟨by rw [HE.out]; simp, rfl⟩
  · have e : comparesB op = false := by simp [comparesB]; omega
    have h' : op < 9 := by omega
    have hd : decide (9 ≤ op) = false := by simp; omega
    have HE := Lib.hid e
    clear e h
    go_enter Try.func76, Try.ntmps76
    go_wp2
    go_ret
    exact ⟨by rw [HE.out]; rfl, rfl⟩
theorem moves_is (op : Int) (W : World) : Calls Try.prog 77 #[.int .i64 op] W fun e w' => e = .returned (.bool (movesB op)) ∧ W = w' := by
  by_cases h : op = 14
  · have HE := Lib.hid (show movesB op = true by simp [movesB, h])
    subst h
    go_enter Try.func77, Try.ntmps77
    go_wp2
    go_ret
    exact ⟨by rw [HE.out]; rfl, rfl⟩
  · have HE := Lib.hid (show movesB op = decide (op = 16) by simp [movesB, h])
    have hd : (op == 14) = false := by simp [h]
    clear h
    go_enter Try.func77, Try.ntmps77
    go_wp2
    go_ret
    exact ⟨by rw [HE.out]; first | rfl | (congr 2; rw [Bool.eq_iff_iff]; simp), rfl⟩
theorem wide_is (op : Int) (W : World) : Calls Try.prog 46 #[.int .i64 op] W fun e w' => e = .returned (.bool (wideB op)) ∧ W = w' := by
  by_cases h : 21 ≤ op
  · have HE := Lib.hid (show wideB op = decide (op ≤ 24) by simp [wideB, h])
    go_enter Try.func46, Try.ntmps46
    go_wp2
    go_ret
    exact ⟨by rw [HE.out]; simp, rfl⟩
  · have HE := Lib.hid (show wideB op = false by simp [wideB]; omega)
    have h' : op < 21 := by omega
    have hd : decide (21 ≤ op) = false := by simp; omega
    clear h
    go_enter Try.func46, Try.ntmps46
    go_wp2
    go_ret
    exact ⟨by rw [HE.out]; rfl, rfl⟩
theorem small_is (n : Int) (W : World) : Calls Try.prog 61 #[.int .i64 n] W fun e w' => e = .returned (.int .i64 (smallI n)) ∧ W = w' := by
  by_cases h2 : n = 2
  · subst h2
    go_enter Try.func61, Try.ntmps61
    go_wp2
    go_ret
    exact ⟨rfl, rfl⟩
  by_cases h3 : n = 3
  · subst h3
    go_enter Try.func61, Try.ntmps61
    go_wp2
    go_ret
    exact ⟨rfl, rfl⟩
  by_cases h6 : n = 6
  · subst h6
    go_enter Try.func61, Try.ntmps61
    go_wp2
    go_ret
    exact ⟨rfl, rfl⟩
  by_cases h7 : n = 7
  · subst h7
    go_enter Try.func61, Try.ntmps61
    go_wp2
    go_ret
    exact ⟨rfl, rfl⟩
  have HE := Lib.hid (show smallI n = 0 by simp [smallI, h2, h3, h6, h7])
  have e2 : (n == 2) = false := by simp [h2]
  have e3 : (n == 3) = false := by simp [h3]
  have e6 : (n == 6) = false := by simp [h6]
  have e7 : (n == 7) = false := by simp [h7]
  clear h2 h3 h6 h7
  go_enter Try.func61, Try.ntmps61
  go_wp2
  go_ret
  exact ⟨by rw [HE.out]; rfl, rfl⟩
theorem get_any (w : Int) (h0 : 0 ≤ w) (h1 : w < 4294967296) (hi lo : Int) (hl : 0 ≤ lo) (hm : lo ≤ hi) (hh : hi ≤ 31) (W : World) :
    Calls Try.prog 38 #[.int .u32 w, .int .u64 hi, .int .u64 lo] W fun e w' => e = .returned (.int .i64 (fld w hi.toNat lo.toNat)) ∧ W = w' := by
  obtain ⟨a, rfl⟩ := Int.eq_ofNat_of_zero_le (show 0 ≤ hi by omega)
  obtain ⟨b, rfl⟩ := Int.eq_ofNat_of_zero_le hl
  exact get_is w h0 h1 a b (by omega) (by omega) W
theorem bit_any (w : Int) (h0 : 0 ≤ w) (h1 : w < 4294967296) (i : Int) (hl : 0 ≤ i) (hh : i ≤ 31) (W : World) :
    Calls Try.prog 41 #[.int .u32 w, .int .u64 i] W fun e w' => e = .returned (.bool (bt w i.toNat)) ∧ W = w' := by
  obtain ⟨a, rfl⟩ := Int.eq_ofNat_of_zero_le hl
  exact bit_is w h0 h1 a (by omega) W
def insCells (i : Ins) : List Value := [.int .i64 i.cond, .int .i64 i.op, .bool i.s, .int .i64 i.form, .int .i64 i.rd, .int .i64 i.rn, .int .i64 i.rm, .int .i64 i.rs, .int .i64 i.ra, .int .u32 i.imm, .int .i64 i.shift, .int .i64 i.amount, .bool i.pre, .bool i.up, .bool i.write, .int .u16 i.list, .int .i64 i.crn, .int .i64 i.op1, .int .i64 i.crm, .int .i64 i.op2]
theorem insCells_lit (i : Ins) : (insCells i).toArray = #[.int .i64 i.cond, .int .i64 i.op, .bool i.s, .int .i64 i.form, .int .i64 i.rd, .int .i64 i.rn, .int .i64 i.rm, .int .i64 i.rs, .int .i64 i.ra, .int .u32 i.imm, .int .i64 i.shift, .int .i64 i.amount, .bool i.pre, .bool i.up, .bool i.write, .int .u16 i.list, .int .i64 i.crn, .int .i64 i.op1, .int .i64 i.crm, .int .i64 i.op2] := rfl
abbrev insA (i : Ins) : Array Value := #[.int .i64 i.cond, .int .i64 i.op, .bool i.s, .int .i64 i.form, .int .i64 i.rd, .int .i64 i.rn, .int .i64 i.rm, .int .i64 i.rs, .int .i64 i.ra, .int .u32 i.imm, .int .i64 i.shift, .int .i64 i.amount, .bool i.pre, .bool i.up, .bool i.write, .int .u16 i.list, .int .i64 i.crn, .int .i64 i.op1, .int .i64 i.crm, .int .i64 i.op2]
abbrev zInsA : Array Value := #[.int .i64 0, .int .i64 0, .bool false, .int .i64 0, .int .i64 0, .int .i64 0, .int .i64 0, .int .i64 0, .int .i64 0, .int .u32 0, .int .i64 0, .int .i64 0, .bool false, .bool false, .bool false, .int .u16 0, .int .i64 0, .int .i64 0, .int .i64 0, .int .i64 0]
theorem rangeAt_new (w : World) (cs : Array Value) (t : TypeId) : (w.alloc (.cells cs t)).rangeAt w.heap.size 0 cs.toList := by
  intro j v hv
  rw [Nat.zero_add, cell_of_row _ w.heap.size j cs t _ (heap_alloc_new w _)]
  simpa using hv
end Go.Proofs.Ytpfhplhamnohjaa
namespace Go.Proofs.Ytpfhplhamnohjaa
set_option maxHeartbeats 25600000
set_option maxRecDepth 100000
open Go.RowKit

theorem ret_cell {P : Program} {fn : Func} {R : Ending → World → Prop} {a : Act} {w : World} (k : Nat) (ty : TypeId) (b : Nat) (cs : List Value) (d : TypeDesc) (hr : fn.results = #[.cell k ty]) (ht : a.tmps.getD k undef = .pointer (some ⟨b, 0, none⟩))
    (hc : w.rangeAt b 0 cs) (hu : P.underlying ty = some d) (hd : d.isRow = true) (hi : (P.info? ty).map (·.size) = some cs.length) (hdef : a.defers = []) (hR : R (.returned (.agg cs.toArray)) w) : bodyPost P fn R .ret a w := by
  refine bodyPost_ret (v := .agg cs.toArray) ?_ hdef hR
  have ht' : a.tmps[k]?.getD undef = .pointer (some ⟨b, 0, none⟩) := by simpa using ht
  simp [results, hr, ht', asAddr, run_loadVar_mid w b 0 ty cs d hc hu hd hi]
theorem Blok.range {w : World} {g : Nat} {t : TypeId} {cs : List Value} (h : Blok w g t cs) : w.rangeAt g 0 cs := fun j v hv => by rw [Nat.zero_add, h.cell]; exact hv
theorem wpList_store_all {P : Program} {ops : Array Oper} {rest : List Oper} {op : Oper} {a : Act} {w : World} {Q : Exit → Act → World → Prop} (hgd : op.guard = none) (ty : TypeId) (x y : Operand) (ho : op.op = .store ty x y)
    (g : Nat) (vs : Array Value) (hx : a.eval x = .pointer (some ⟨g, 0, none⟩)) (hy : a.eval y = .agg vs) {t : TypeId} {cs : List Value} (hb : Blok w g t cs) (hl : vs.size = cs.length)
    (hi : (P.info? ty).map (·.size) = some vs.size) (h1 : vs.toList.all (·.oneCell') = true)
    (h : ∀ w1, Blok w1 g t vs.toList → w.grownBy w1 (some g) → w1.heap.size = w.heap.size → wpList P ops Q rest (a.put op.dst undef) w1) : wpList P ops Q (op :: rest) a w :=
  wpList_store_blok hgd ty x y ho g 0 vs hx hy hb (by omega) hi h1 (fun w1 b1 b2 b3 => h w1 (by simpa [hl] using b1) b2 b3)
theorem ins_at {w : World} {g : Nat} {t : TypeId} {i : Ins} (h : Blok w g t (insCells i)) : w.cell? ⟨g, 0, none⟩ = some (.int .i64 i.cond) ∧ w.cell? ⟨g, 1, none⟩ = some (.int .i64 i.op) ∧ w.cell? ⟨g, 2, none⟩ = some (.bool i.s) ∧ w.cell? ⟨g, 3, none⟩ = some (.int .i64 i.form) ∧ w.cell? ⟨g, 4, none⟩ = some (.int .i64 i.rd) ∧ w.cell? ⟨g, 5, none⟩ = some (.int .i64 i.rn) ∧ w.cell? ⟨g, 6, none⟩ = some (.int .i64 i.rm) ∧ w.cell? ⟨g, 7, none⟩ = some (.int .i64 i.rs) ∧ w.cell? ⟨g, 8, none⟩ = some (.int .i64 i.ra) ∧ w.cell? ⟨g, 9, none⟩ = some (.int .u32 i.imm) ∧ w.cell? ⟨g, 10, none⟩ = some (.int .i64 i.shift) ∧ w.cell? ⟨g, 11, none⟩ = some (.int .i64 i.amount) ∧ w.cell? ⟨g, 12, none⟩ = some (.bool i.pre) ∧ w.cell? ⟨g, 13, none⟩ = some (.bool i.up) ∧ w.cell? ⟨g, 14, none⟩ = some (.bool i.write) ∧ w.cell? ⟨g, 15, none⟩ = some (.int .u16 i.list) ∧ w.cell? ⟨g, 16, none⟩ = some (.int .i64 i.crn) ∧ w.cell? ⟨g, 17, none⟩ = some (.int .i64 i.op1) ∧ w.cell? ⟨g, 18, none⟩ = some (.int .i64 i.crm) ∧ w.cell? ⟨g, 19, none⟩ = some (.int .i64 i.op2) :=
  ⟨h.cell 0, h.cell 1, h.cell 2, h.cell 3, h.cell 4, h.cell 5, h.cell 6, h.cell 7, h.cell 8, h.cell 9, h.cell 10, h.cell 11, h.cell 12, h.cell 13, h.cell 14, h.cell 15, h.cell 16, h.cell 17, h.cell 18, h.cell 19⟩
theorem ins_two (i : Ins) (W : World) : Blok ((W.alloc (.cells (insA i) 61)).alloc (.cells zInsA 61)) W.heap.size 61 (insCells i) ∧ Blok ((W.alloc (.cells (insA i) 61)).alloc (.cells zInsA 61)) (W.heap.size + 1) 61 (insCells zIns) ∧ Below W.heap.size W ((W.alloc (.cells (insA i) 61)).alloc (.cells zInsA 61)) := by
  refine ⟨(Blok.new W _ (insCells i)).alloc _, ?_, ((Below.refl _ _).alloc (Nat.le_refl _) _).alloc (by simp) _⟩
  have := Blok.new (W.alloc (.cells (insA i) 61)) 61 (insCells zIns)
  rwa [show (W.alloc (.cells (insA i) 61)).heap.size = W.heap.size + 1 by simp] at this
theorem insCells_len (J : Ins) : (insCells J).length = 20 := rfl
theorem ins_size : (Try.prog.info? 61).map (·.size) = some 20 := by kernel_rfl
theorem insCells_one (J : Ins) : (insCells J).all (·.oneCell') = true := rfl
theorem wpList_store_ins {ops : Array Oper} {rest : List Oper} {op : Oper} {a : Act} {w : World} {Q : Exit → Act → World → Prop} (hgd : op.guard = none) (x y : Operand) (ho : op.op = .store 61 x y)
    (g : Nat) (J K : Ins) (hx : a.eval x = .pointer (some ⟨g, 0, none⟩)) (hy : a.eval y = .agg (insCells J).toArray) (hb : Blok w g 61 (insCells K))
    (h : ∀ w1, Blok w1 g 61 (insCells J) → w.grownBy w1 (some g) → wpList Try.prog ops Q rest (a.put op.dst undef) w1) : wpList Try.prog ops Q (op :: rest) a w :=
  wpList_store_all hgd 61 x y ho g (insCells J).toArray hx hy hb (by simp [insCells_len]) (by rw [ins_size]; simp [insCells_len]) (insCells_one J) (fun w1 b1 b2 _ => h w1 b1 b2)
theorem wpList_load_ins {ops : Array Oper} {rest : List Oper} {op : Oper} {a : Act} {w : World} {Q : Exit → Act → World → Prop} (hgd : op.guard = none) (x : Operand) (ho : op.op = .load 61 x)
    (g : Nat) (J : Ins) (hx : a.eval x = .pointer (some ⟨g, 0, none⟩)) (hb : Blok w g 61 (insCells J)) (h : wpList Try.prog ops Q rest (a.put op.dst (.agg (insCells J).toArray)) w) : wpList Try.prog ops Q (op :: rest) a w :=
  wpList_load_mid hgd 61 x ho g 0 hx (insCells J) _ hb.range Try.underlying61 rfl (by rw [ins_size, insCells_len]) h
theorem ret_ins {fn : Func} {R : Ending → World → Prop} {a : Act} {w : World} (k : Nat) (g : Nat) (J : Ins) (hr : fn.results = #[.cell k 61]) (ht : a.tmps.getD k undef = .pointer (some ⟨g, 0, none⟩))
    (hb : Blok w g 61 (insCells J)) (hdef : a.defers = []) (hR : R (.returned (.agg (insCells J).toArray)) w) : bodyPost Try.prog fn R .ret a w :=
  ret_cell k 61 g (insCells J) _ hr ht hb.range Try.underlying61 rfl (by rw [ins_size, insCells_len]) hdef hR
theorem bgrow {w w1 w2 : World} {g : Nat} (h : Below w.heap.size w w1) (k : w1.grownBy w2 (some g)) (hg : w.heap.size ≤ g) : Below w.heap.size w w2 :=
  h.trans ⟨k.os, k.tape, k.output, k.size, fun x hx => k.block x (Nat.lt_of_lt_of_le hx h.size) (fun e => by have := Option.some.inj e; omega)⟩
theorem data_is (w : Int) (h0 : 0 ≤ w) (h1 : w < 4294967296) (i : Ins) (W : World) :
    Calls Try.prog 60 #[.int .u32 w, (.agg (insA i))] W fun e w' => e = .returned (.agg (insCells (dataI w i)).toArray) ∧ Below W.heap.size W w' := by
  have G := Lib.hid (fun hi lo hl hm hh W => get_any w h0 h1 hi lo hl hm hh W)
  have B := Lib.hid (fun i hl hh W => bit_any w h0 h1 i hl hh W)
  have b1 := fld_le w 24 21
  obtain ⟨hA, hZ, hB⟩ := ins_two i W
  go_enter Try.func60, Try.ntmps60
  go_upto_region 1 with fail
  generalize (W.alloc (.cells (insA i) 61)).alloc (.cells zInsA 61) = W2 at hA hZ hB ⊢
  generalize Value.agg (insA i) = vi
  obtain ⟨c0, c1, c2, c3, c4, c5, c6, c7, c8, c9, c10, c11, c12, c13, c14, c15, c16, c17, c18, c19⟩ := ins_at (hA)
  have hf := hA.frozen
  obtain ⟨q1, hq1⟩ : ∃ q, comparesB (fld w 24 21 + 1) = q := ⟨_, rfl⟩
  obtain ⟨q2, hq2⟩ : ∃ q, bt w 20 = q := ⟨_, rfl⟩
  obtain ⟨q3, hq3⟩ : ∃ q, (fld w 15 12 != 0) = q := ⟨_, rfl⟩
  obtain ⟨q4, hq4⟩ : ∃ q, movesB (fld w 24 21 + 1) = q := ⟨_, rfl⟩
  obtain ⟨q5, hq5⟩ : ∃ q, (fld w 19 16 != 0) = q := ⟨_, rfl⟩
  obtain ⟨J, hJ⟩ : ∃ J : Ins, { i with op := fld w 24 21 + 1, s := q2, rn := fld w 19 16, rd := fld w 15 12 } = J := ⟨_, rfl⟩
  have hC : Hid (dataI w i = if (q1 && (!q2 || q3)) || (q4 && q5) then zIns else J) := Lib.hid (by
    rw [← hJ, ← hq1, ← hq2, ← hq3, ← hq4, ← hq5]; unfold dataI; simp [bne, Bool.beq_eq_decide_eq])
  have HJ := Lib.hid hJ
  clear hJ
  go_upto_region 4 with (first | (go_at_call 38; with_reducible refine (G.out _ _ ?_ ?_ ?_ _).mono ?_; (any_goals (first | omega | decide)); rintro e w' ⟨rfl, rfl⟩) | (go_at_call 41; with_reducible refine (B.out _ ?_ ?_ _).mono ?_; (any_goals (first | omega | decide)); rintro e w' ⟨rfl, rfl⟩) | (go_at_call 76; with_reducible refine (compares_is _ _).mono ?_; rintro e w' ⟨rfl, rfl⟩) | (go_at_call 77; with_reducible refine (moves_is _ _).mono ?_; rintro e w' ⟨rfl, rfl⟩))
  have hA3 : Blok ((((W2.setCell ⟨W.heap.size, 1, none⟩ (.int .i64 (fld w 24 21 + 1))).setCell ⟨W.heap.size, 2, none⟩ (.bool q2)).setCell ⟨W.heap.size, 5, none⟩ (.int .i64 (fld w 19 16))).setCell ⟨W.heap.size, 4, none⟩ (.int .i64 (fld w 15 12))) W.heap.size 61 (insCells J) := by
    rw [← HJ.out]
    exact (((hA.set_ 1 (.int .i64 (fld w 24 21 + 1))).set_ 2 (.bool q2)).set_ 5 (.int .i64 (fld w 19 16))).set_ 4 (.int .i64 (fld w 15 12))
  have hZ3 := (((hZ.far (p := ⟨W.heap.size, 1, none⟩) (by simp) (.int .i64 (fld w 24 21 + 1))).far (p := ⟨W.heap.size, 2, none⟩) (by simp) (.bool q2)).far (p := ⟨W.heap.size, 5, none⟩) (by simp) (.int .i64 (fld w 19 16))).far (p := ⟨W.heap.size, 4, none⟩) (by simp) (.int .i64 (fld w 15 12))
  have hB3 : Below W.heap.size W _ := (((hB.setCell (p := ⟨W.heap.size, 1, none⟩) (Nat.le_refl _) (.int .i64 (fld w 24 21 + 1))).setCell (p := ⟨W.heap.size, 2, none⟩) (Nat.le_refl _) (.bool q2)).setCell (p := ⟨W.heap.size, 5, none⟩) (Nat.le_refl _) (.int .i64 (fld w 19 16))).setCell (p := ⟨W.heap.size, 4, none⟩) (Nat.le_refl _) (.int .i64 (fld w 15 12))
  clear hA hZ hB c0 c1 c2 c3 c4 c5 c6 c7 c8 c9 c10 c11 c12 c13 c14 c15 c16 c17 c18 c19 hf
  generalize ((((W2.setCell ⟨W.heap.size, 1, none⟩ (.int .i64 (fld w 24 21 + 1))).setCell ⟨W.heap.size, 2, none⟩ (.bool q2)).setCell ⟨W.heap.size, 5, none⟩ (.int .i64 (fld w 19 16))).setCell ⟨W.heap.size, 4, none⟩ (.int .i64 (fld w 15 12))) = W3 at hA3 hZ3 hB3 ⊢
  have hA4 := hA3
  rw [← HJ.out] at hA4
  have c1 : W3.cell? ⟨W.heap.size, 1, none⟩ = some (.int .i64 (fld w 24 21 + 1)) := hA4.cell 1
  have c2 : W3.cell? ⟨W.heap.size, 2, none⟩ = some (.bool q2) := hA4.cell 2
  have c4 : W3.cell? ⟨W.heap.size, 4, none⟩ = some (.int .i64 (fld w 15 12)) := hA4.cell 4
  have c5 : W3.cell? ⟨W.heap.size, 5, none⟩ = some (.int .i64 (fld w 19 16)) := hA4.cell 5
  clear hA4
  cases q1
  · cases q4
    · go_upto_region 6 with (first | (go_at_call 38; with_reducible refine (G.out _ _ ?_ ?_ ?_ _).mono ?_; (any_goals (first | omega | decide)); rintro e w' ⟨rfl, rfl⟩) | (go_at_call 41; with_reducible refine (B.out _ ?_ ?_ _).mono ?_; (any_goals (first | omega | decide)); rintro e w' ⟨rfl, rfl⟩) | (go_at_call 76; with_reducible refine (compares_is _ _).mono ?_; rintro e w' ⟨rfl, rfl⟩) | (go_at_call 77; with_reducible refine (moves_is _ _).mono ?_; rintro e w' ⟨rfl, rfl⟩))
      clear c1 c2 c4 c5
      go_wp2_with (first | (refine wpList_load_ins rfl (.tmp 3) rfl (W.heap.size) (J) rfl hA3 ?_) | (refine wpList_store_ins rfl (.tmp 4) (.tmp 42) rfl (W.heap.size + 1) (J) _ rfl rfl hZ3 ?_; intro w8 B8 g8))
      refine ret_ins 4 (W.heap.size + 1) (J) rfl rfl B8 rfl ⟨?_, ?_⟩
      · rw [hC.out]; rfl
      · exact bgrow hB3 g8 (by omega)
    · cases q5
      · go_upto_region 6 with (first | (go_at_call 38; with_reducible refine (G.out _ _ ?_ ?_ ?_ _).mono ?_; (any_goals (first | omega | decide)); rintro e w' ⟨rfl, rfl⟩) | (go_at_call 41; with_reducible refine (B.out _ ?_ ?_ _).mono ?_; (any_goals (first | omega | decide)); rintro e w' ⟨rfl, rfl⟩) | (go_at_call 76; with_reducible refine (compares_is _ _).mono ?_; rintro e w' ⟨rfl, rfl⟩) | (go_at_call 77; with_reducible refine (moves_is _ _).mono ?_; rintro e w' ⟨rfl, rfl⟩))
        clear c1 c2 c4 c5
        go_wp2_with (first | (refine wpList_load_ins rfl (.tmp 3) rfl (W.heap.size) (J) rfl hA3 ?_) | (refine wpList_store_ins rfl (.tmp 4) (.tmp 42) rfl (W.heap.size + 1) (J) _ rfl rfl hZ3 ?_; intro w8 B8 g8))
        refine ret_ins 4 (W.heap.size + 1) (J) rfl rfl B8 rfl ⟨?_, ?_⟩
        · rw [hC.out]; rfl
        · exact bgrow hB3 g8 (by omega)
      · go_upto_region 5 with (first | (go_at_call 38; with_reducible refine (G.out _ _ ?_ ?_ ?_ _).mono ?_; (any_goals (first | omega | decide)); rintro e w' ⟨rfl, rfl⟩) | (go_at_call 41; with_reducible refine (B.out _ ?_ ?_ _).mono ?_; (any_goals (first | omega | decide)); rintro e w' ⟨rfl, rfl⟩) | (go_at_call 76; with_reducible refine (compares_is _ _).mono ?_; rintro e w' ⟨rfl, rfl⟩) | (go_at_call 77; with_reducible refine (moves_is _ _).mono ?_; rintro e w' ⟨rfl, rfl⟩))
        clear c1 c2 c4 c5
        go_wp2_with (refine wpList_store_ins rfl (.tmp 4) (.tmp 41) rfl (W.heap.size + 1) zIns _ rfl rfl hZ3 ?_; intro w8 B8 g8)
        refine ret_ins 4 (W.heap.size + 1) (zIns) rfl rfl B8 rfl ⟨?_, ?_⟩
        · rw [hC.out]; rfl
        · exact bgrow hB3 g8 (by omega)
  · cases q2
    · go_upto_region 5 with (first | (go_at_call 38; with_reducible refine (G.out _ _ ?_ ?_ ?_ _).mono ?_; (any_goals (first | omega | decide)); rintro e w' ⟨rfl, rfl⟩) | (go_at_call 41; with_reducible refine (B.out _ ?_ ?_ _).mono ?_; (any_goals (first | omega | decide)); rintro e w' ⟨rfl, rfl⟩) | (go_at_call 76; with_reducible refine (compares_is _ _).mono ?_; rintro e w' ⟨rfl, rfl⟩) | (go_at_call 77; with_reducible refine (moves_is _ _).mono ?_; rintro e w' ⟨rfl, rfl⟩))
      clear c1 c2 c4 c5
      go_wp2_with (refine wpList_store_ins rfl (.tmp 4) (.tmp 41) rfl (W.heap.size + 1) zIns _ rfl rfl hZ3 ?_; intro w8 B8 g8)
      refine ret_ins 4 (W.heap.size + 1) (zIns) rfl rfl B8 rfl ⟨?_, ?_⟩
      · rw [hC.out]; rfl
      · exact bgrow hB3 g8 (by omega)
    · cases q3
      · cases q4
        · go_upto_region 6 with (first | (go_at_call 38; with_reducible refine (G.out _ _ ?_ ?_ ?_ _).mono ?_; (any_goals (first | omega | decide)); rintro e w' ⟨rfl, rfl⟩) | (go_at_call 41; with_reducible refine (B.out _ ?_ ?_ _).mono ?_; (any_goals (first | omega | decide)); rintro e w' ⟨rfl, rfl⟩) | (go_at_call 76; with_reducible refine (compares_is _ _).mono ?_; rintro e w' ⟨rfl, rfl⟩) | (go_at_call 77; with_reducible refine (moves_is _ _).mono ?_; rintro e w' ⟨rfl, rfl⟩))
          clear c1 c2 c4 c5
          go_wp2_with (first | (refine wpList_load_ins rfl (.tmp 3) rfl (W.heap.size) (J) rfl hA3 ?_) | (refine wpList_store_ins rfl (.tmp 4) (.tmp 42) rfl (W.heap.size + 1) (J) _ rfl rfl hZ3 ?_; intro w8 B8 g8))
          refine ret_ins 4 (W.heap.size + 1) (J) rfl rfl B8 rfl ⟨?_, ?_⟩
          · rw [hC.out]; rfl
          · exact bgrow hB3 g8 (by omega)
        · cases q5
          · go_upto_region 6 with (first | (go_at_call 38; with_reducible refine (G.out _ _ ?_ ?_ ?_ _).mono ?_; (any_goals (first | omega | decide)); rintro e w' ⟨rfl, rfl⟩) | (go_at_call 41; with_reducible refine (B.out _ ?_ ?_ _).mono ?_; (any_goals (first | omega | decide)); rintro e w' ⟨rfl, rfl⟩) | (go_at_call 76; with_reducible refine (compares_is _ _).mono ?_; rintro e w' ⟨rfl, rfl⟩) | (go_at_call 77; with_reducible refine (moves_is _ _).mono ?_; rintro e w' ⟨rfl, rfl⟩))
            clear c1 c2 c4 c5
            go_wp2_with (first | (refine wpList_load_ins rfl (.tmp 3) rfl (W.heap.size) (J) rfl hA3 ?_) | (refine wpList_store_ins rfl (.tmp 4) (.tmp 42) rfl (W.heap.size + 1) (J) _ rfl rfl hZ3 ?_; intro w8 B8 g8))
            refine ret_ins 4 (W.heap.size + 1) (J) rfl rfl B8 rfl ⟨?_, ?_⟩
            · rw [hC.out]; rfl
            · exact bgrow hB3 g8 (by omega)
          · go_upto_region 5 with (first | (go_at_call 38; with_reducible refine (G.out _ _ ?_ ?_ ?_ _).mono ?_; (any_goals (first | omega | decide)); rintro e w' ⟨rfl, rfl⟩) | (go_at_call 41; with_reducible refine (B.out _ ?_ ?_ _).mono ?_; (any_goals (first | omega | decide)); rintro e w' ⟨rfl, rfl⟩) | (go_at_call 76; with_reducible refine (compares_is _ _).mono ?_; rintro e w' ⟨rfl, rfl⟩) | (go_at_call 77; with_reducible refine (moves_is _ _).mono ?_; rintro e w' ⟨rfl, rfl⟩))
            clear c1 c2 c4 c5
            go_wp2_with (refine wpList_store_ins rfl (.tmp 4) (.tmp 41) rfl (W.heap.size + 1) zIns _ rfl rfl hZ3 ?_; intro w8 B8 g8)
            refine ret_ins 4 (W.heap.size + 1) (zIns) rfl rfl B8 rfl ⟨?_, ?_⟩
            · rw [hC.out]; rfl
            · exact bgrow hB3 g8 (by omega)
      · go_upto_region 5 with (first | (go_at_call 38; with_reducible refine (G.out _ _ ?_ ?_ ?_ _).mono ?_; (any_goals (first | omega | decide)); rintro e w' ⟨rfl, rfl⟩) | (go_at_call 41; with_reducible refine (B.out _ ?_ ?_ _).mono ?_; (any_goals (first | omega | decide)); rintro e w' ⟨rfl, rfl⟩) | (go_at_call 76; with_reducible refine (compares_is _ _).mono ?_; rintro e w' ⟨rfl, rfl⟩) | (go_at_call 77; with_reducible refine (moves_is _ _).mono ?_; rintro e w' ⟨rfl, rfl⟩))
        clear c1 c2 c4 c5
        go_wp2_with (refine wpList_store_ins rfl (.tmp 4) (.tmp 41) rfl (W.heap.size + 1) zIns _ rfl rfl hZ3 ?_; intro w8 B8 g8)
        refine ret_ins 4 (W.heap.size + 1) (zIns) rfl rfl B8 rfl ⟨?_, ?_⟩
        · rw [hC.out]; rfl
        · exact bgrow hB3 g8 (by omega)
end Go.Proofs.Ytpfhplhamnohjaa
