/- Layer 18: the sixteen operations. Layer 18: operations. Layer 18: Do. -/
import Derived.Test.YtpfhplhamnohjaaG04
namespace Go.Proofs.Ytpfhplhamnohjaa
set_option maxHeartbeats 25600000
set_option maxRecDepth 100000
open Go.RowKit

def notW (a : Int) : Int := bits .xor .u32 IntKind.u32.max a
theorem lop1_is (a b : Int) (W : World) :
    Calls Try.prog 86 #[.int .u32 a, .int .u32 b] W fun e w' => e = .returned (.int .u32 (bits .and .u32 a b)) ∧ W = w' := by
  go_enter Try.func86, Try.ntmps86
  go_wp2
  go_ret
  exact ⟨rfl, rfl⟩
theorem lop2_is (a b : Int) (W : World) :
    Calls Try.prog 87 #[.int .u32 a, .int .u32 b] W fun e w' => e = .returned (.int .u32 (bits .xor .u32 a b)) ∧ W = w' := by
  go_enter Try.func87, Try.ntmps87
  go_wp2
  go_ret
  exact ⟨rfl, rfl⟩
theorem lop9_is (a b : Int) (W : World) :
    Calls Try.prog 95 #[.int .u32 a, .int .u32 b] W fun e w' => e = .returned (.int .u32 (bits .or .u32 a b)) ∧ W = w' := by
  go_enter Try.func95, Try.ntmps95
  go_wp2
  go_ret
  exact ⟨rfl, rfl⟩
theorem lop10_is (a b : Int) (W : World) :
    Calls Try.prog 96 #[.int .u32 a, .int .u32 b] W fun e w' => e = .returned (.int .u32 (b)) ∧ W = w' := by
  go_enter Try.func96, Try.ntmps96
  go_wp2
  go_ret
  exact ⟨rfl, rfl⟩
theorem lop11_is (a b : Int) (W : World) :
    Calls Try.prog 97 #[.int .u32 a, .int .u32 b] W fun e w' => e = .returned (.int .u32 (bits .andNot .u32 a b)) ∧ W = w' := by
  go_enter Try.func97, Try.ntmps97
  go_wp2
  go_ret
  exact ⟨rfl, rfl⟩
theorem lop12_is (a b : Int) (W : World) :
    Calls Try.prog 98 #[.int .u32 a, .int .u32 b] W fun e w' => e = .returned (.int .u32 (notW b)) ∧ W = w' := by
  go_enter Try.func98, Try.ntmps98
  go_wp2
  go_ret
  exact ⟨rfl, rfl⟩
theorem sop3_is (a b : Int) (k : Bool) (W : World) :
    Calls Try.prog 89 #[.int .u32 a, .int .u32 b, .bool k] W fun e w' => e = .returned (.tuple #[.int .u32 (a), .int .u32 (notW b), .bool true]) ∧ W = w' := by
  go_enter Try.func89, Try.ntmps89
  go_wp2
  refine bodyPost_ret (results_tmp3 rfl _ _ _) rfl ?_
  exact ⟨rfl, rfl⟩
theorem sop4_is (a b : Int) (k : Bool) (W : World) :
    Calls Try.prog 90 #[.int .u32 a, .int .u32 b, .bool k] W fun e w' => e = .returned (.tuple #[.int .u32 (a), .int .u32 (b), .bool false]) ∧ W = w' := by
  go_enter Try.func90, Try.ntmps90
  go_wp2
  refine bodyPost_ret (results_tmp3 rfl _ _ _) rfl ?_
  exact ⟨rfl, rfl⟩
theorem sop5_is (a b : Int) (k : Bool) (W : World) :
    Calls Try.prog 91 #[.int .u32 a, .int .u32 b, .bool k] W fun e w' => e = .returned (.tuple #[.int .u32 (notW a), .int .u32 (b), .bool true]) ∧ W = w' := by
  go_enter Try.func91, Try.ntmps91
  go_wp2
  refine bodyPost_ret (results_tmp3 rfl _ _ _) rfl ?_
  exact ⟨rfl, rfl⟩
theorem sop6_is (a b : Int) (k : Bool) (W : World) :
    Calls Try.prog 92 #[.int .u32 a, .int .u32 b, .bool k] W fun e w' => e = .returned (.tuple #[.int .u32 (a), .int .u32 (b), .bool k]) ∧ W = w' := by
  go_enter Try.func92, Try.ntmps92
  go_wp2
  refine bodyPost_ret (results_tmp3 rfl _ _ _) rfl ?_
  exact ⟨rfl, rfl⟩
theorem sop7_is (a b : Int) (k : Bool) (W : World) :
    Calls Try.prog 93 #[.int .u32 a, .int .u32 b, .bool k] W fun e w' => e = .returned (.tuple #[.int .u32 (a), .int .u32 (notW b), .bool k]) ∧ W = w' := by
  go_enter Try.func93, Try.ntmps93
  go_wp2
  refine bodyPost_ret (results_tmp3 rfl _ _ _) rfl ?_
  exact ⟨rfl, rfl⟩
theorem sop8_is (a b : Int) (k : Bool) (W : World) :
    Calls Try.prog 94 #[.int .u32 a, .int .u32 b, .bool k] W fun e w' => e = .returned (.tuple #[.int .u32 (notW a), .int .u32 (b), .bool k]) ∧ W = w' := by
  go_enter Try.func94, Try.ntmps94
  go_wp2
  refine bodyPost_ret (results_tmp3 rfl _ _ _) rfl ?_
  exact ⟨rfl, rfl⟩
theorem logical_is (F : FuncId) (W : World) :
    Calls Try.prog 85 #[.func (.func F) #[] #[]] W fun e w' => e = .returned (.func (.func 100) #[] #[.pointer (some ⟨W.heap.size, 0, none⟩)]) ∧ ∃ t, W.alloc (.cells #[.func (.func F) #[] #[]] t) = w' := by
  have hmf : ∀ (fn : Fn) (first cap : Array Value) (w : World), (Instr.makeFunc fn first cap).run Try.prog w = .ok (.func fn first cap) w := fun _ _ _ _ => rfl
  go_enter Try.func85, Try.ntmps85
  go_wp2
  go_ret
  exact ⟨rfl, _, rfl⟩
theorem summed_is (F : FuncId) (W : World) :
    Calls Try.prog 88 #[.func (.func F) #[] #[]] W fun e w' => e = .returned (.func (.func 102) #[] #[.pointer (some ⟨W.heap.size, 0, none⟩)]) ∧ ∃ t, W.alloc (.cells #[.func (.func F) #[] #[]] t) = w' := by
  have hmf : ∀ (fn : Fn) (first cap : Array Value) (w : World), (Instr.makeFunc fn first cap).run Try.prog w = .ok (.func fn first cap) w := fun _ _ _ _ => rfl
  go_enter Try.func88, Try.ntmps88
  go_wp2
  go_ret
  exact ⟨rfl, _, rfl⟩
theorem lcl1_is (a b : Int) (s : Bool) (f : Flg) (g : Nat) (hr : 0 ≤ (bits .and .u32 a b) ∧ (bits .and .u32 a b) < 4294967296) (W : World) (hg : g < W.heap.size) (hc : W.cell? ⟨g, 0, none⟩ = some (.func (.func 86) #[] #[])) :
    Calls Try.prog 100 #[.int .u32 a, .int .u32 b, .bool s, .agg #[.bool f.n, .bool f.z, .bool f.c, .bool f.v], .pointer (some ⟨g, 0, none⟩)] W fun e w' => e = .returned (.tuple #[.int .u32 (bits .and .u32 a b), .agg (flgCells (marksF (bits .and .u32 a b) s f.v)).toArray]) ∧ Below W.heap.size W w' := by
  have O := Lib.hid (fun W => lop1_is a b W)
  have M := Lib.hid (fun c v W => marks_is (bits .and .u32 a b) hr.1 hr.2 c v W)
  clear hr
  obtain ⟨hA, hZ, hB⟩ := flg_two f W
  have hgc := (hB.cell hg).trans hc
  go_enter Try.func100, Try.ntmps100
  go_upto_region 1 with fail
  generalize (W.alloc (.cells #[.bool f.n, .bool f.z, .bool f.c, .bool f.v] 66)).alloc (.cells #[.bool false, .bool false, .bool false, .bool false] 66) = W2 at hA hZ hB hgc ⊢
  have hlt := hZ.lt
  have f0 : W2.cell? ⟨W.heap.size, 0, none⟩ = some (.bool f.n) := hA.cell 0
  have f1 : W2.cell? ⟨W.heap.size, 1, none⟩ = some (.bool f.z) := hA.cell 1
  have f2 : W2.cell? ⟨W.heap.size, 2, none⟩ = some (.bool f.c) := hA.cell 2
  have f3 : W2.cell? ⟨W.heap.size, 3, none⟩ = some (.bool f.v) := hA.cell 3
  clear hA hc
  go_wp2_with (first | (refine wpList_store_all rfl 66 (.tmp 10) (.tmp 21) rfl (W.heap.size + 1) _ rfl rfl (hZ.below b2 hlt) rfl (by rw [flg_size]; rfl) rfl ?_; intro w3 B3 g3 _z) | (go_at_call 101; (with_reducible refine (M.out _ _ _).mono ?_); rintro e w2 ⟨rfl, b2⟩) | (go_at_call 86; (with_reducible refine (O.out _).mono ?_); rintro e w1 ⟨rfl, rfl⟩))
  refine ret_tc 9 10 _ 66 (W.heap.size + 1) _ _ rfl rfl rfl B3.range Try.underlying66 rfl (by rw [flg_size]; rfl) rfl ⟨rfl, ?_⟩
  exact bgrow (bthen hB b2) g3 (by omega)
theorem lcl2_is (a b : Int) (s : Bool) (f : Flg) (g : Nat) (hr : 0 ≤ (bits .xor .u32 a b) ∧ (bits .xor .u32 a b) < 4294967296) (W : World) (hg : g < W.heap.size) (hc : W.cell? ⟨g, 0, none⟩ = some (.func (.func 87) #[] #[])) :
    Calls Try.prog 100 #[.int .u32 a, .int .u32 b, .bool s, .agg #[.bool f.n, .bool f.z, .bool f.c, .bool f.v], .pointer (some ⟨g, 0, none⟩)] W fun e w' => e = .returned (.tuple #[.int .u32 (bits .xor .u32 a b), .agg (flgCells (marksF (bits .xor .u32 a b) s f.v)).toArray]) ∧ Below W.heap.size W w' := by
  have O := Lib.hid (fun W => lop2_is a b W)
  have M := Lib.hid (fun c v W => marks_is (bits .xor .u32 a b) hr.1 hr.2 c v W)
  clear hr
  obtain ⟨hA, hZ, hB⟩ := flg_two f W
  have hgc := (hB.cell hg).trans hc
  go_enter Try.func100, Try.ntmps100
  go_upto_region 1 with fail
  generalize (W.alloc (.cells #[.bool f.n, .bool f.z, .bool f.c, .bool f.v] 66)).alloc (.cells #[.bool false, .bool false, .bool false, .bool false] 66) = W2 at hA hZ hB hgc ⊢
  have hlt := hZ.lt
  have f0 : W2.cell? ⟨W.heap.size, 0, none⟩ = some (.bool f.n) := hA.cell 0
  have f1 : W2.cell? ⟨W.heap.size, 1, none⟩ = some (.bool f.z) := hA.cell 1
  have f2 : W2.cell? ⟨W.heap.size, 2, none⟩ = some (.bool f.c) := hA.cell 2
  have f3 : W2.cell? ⟨W.heap.size, 3, none⟩ = some (.bool f.v) := hA.cell 3
  clear hA hc
  go_wp2_with (first | (refine wpList_store_all rfl 66 (.tmp 10) (.tmp 21) rfl (W.heap.size + 1) _ rfl rfl (hZ.below b2 hlt) rfl (by rw [flg_size]; rfl) rfl ?_; intro w3 B3 g3 _z) | (go_at_call 101; (with_reducible refine (M.out _ _ _).mono ?_); rintro e w2 ⟨rfl, b2⟩) | (go_at_call 87; (with_reducible refine (O.out _).mono ?_); rintro e w1 ⟨rfl, rfl⟩))
  refine ret_tc 9 10 _ 66 (W.heap.size + 1) _ _ rfl rfl rfl B3.range Try.underlying66 rfl (by rw [flg_size]; rfl) rfl ⟨rfl, ?_⟩
  exact bgrow (bthen hB b2) g3 (by omega)
theorem lcl9_is (a b : Int) (s : Bool) (f : Flg) (g : Nat) (hr : 0 ≤ (bits .or .u32 a b) ∧ (bits .or .u32 a b) < 4294967296) (W : World) (hg : g < W.heap.size) (hc : W.cell? ⟨g, 0, none⟩ = some (.func (.func 95) #[] #[])) :
    Calls Try.prog 100 #[.int .u32 a, .int .u32 b, .bool s, .agg #[.bool f.n, .bool f.z, .bool f.c, .bool f.v], .pointer (some ⟨g, 0, none⟩)] W fun e w' => e = .returned (.tuple #[.int .u32 (bits .or .u32 a b), .agg (flgCells (marksF (bits .or .u32 a b) s f.v)).toArray]) ∧ Below W.heap.size W w' := by
  have O := Lib.hid (fun W => lop9_is a b W)
  have M := Lib.hid (fun c v W => marks_is (bits .or .u32 a b) hr.1 hr.2 c v W)
  clear hr
  obtain ⟨hA, hZ, hB⟩ := flg_two f W
  have hgc := (hB.cell hg).trans hc
  go_enter Try.func100, Try.ntmps100
  go_upto_region 1 with fail
  generalize (W.alloc (.cells #[.bool f.n, .bool f.z, .bool f.c, .bool f.v] 66)).alloc (.cells #[.bool false, .bool false, .bool false, .bool false] 66) = W2 at hA hZ hB hgc ⊢
  have hlt := hZ.lt
  have f0 : W2.cell? ⟨W.heap.size, 0, none⟩ = some (.bool f.n) := hA.cell 0
  have f1 : W2.cell? ⟨W.heap.size, 1, none⟩ = some (.bool f.z) := hA.cell 1
  have f2 : W2.cell? ⟨W.heap.size, 2, none⟩ = some (.bool f.c) := hA.cell 2
  have f3 : W2.cell? ⟨W.heap.size, 3, none⟩ = some (.bool f.v) := hA.cell 3
  clear hA hc
  go_wp2_with (first | (refine wpList_store_all rfl 66 (.tmp 10) (.tmp 21) rfl (W.heap.size + 1) _ rfl rfl (hZ.below b2 hlt) rfl (by rw [flg_size]; rfl) rfl ?_; intro w3 B3 g3 _z) | (go_at_call 101; (with_reducible refine (M.out _ _ _).mono ?_); rintro e w2 ⟨rfl, b2⟩) | (go_at_call 95; (with_reducible refine (O.out _).mono ?_); rintro e w1 ⟨rfl, rfl⟩))
  refine ret_tc 9 10 _ 66 (W.heap.size + 1) _ _ rfl rfl rfl B3.range Try.underlying66 rfl (by rw [flg_size]; rfl) rfl ⟨rfl, ?_⟩
  exact bgrow (bthen hB b2) g3 (by omega)
theorem lcl10_is (a b : Int) (s : Bool) (f : Flg) (g : Nat) (hr : 0 ≤ (b) ∧ (b) < 4294967296) (W : World) (hg : g < W.heap.size) (hc : W.cell? ⟨g, 0, none⟩ = some (.func (.func 96) #[] #[])) :
    Calls Try.prog 100 #[.int .u32 a, .int .u32 b, .bool s, .agg #[.bool f.n, .bool f.z, .bool f.c, .bool f.v], .pointer (some ⟨g, 0, none⟩)] W fun e w' => e = .returned (.tuple #[.int .u32 (b), .agg (flgCells (marksF (b) s f.v)).toArray]) ∧ Below W.heap.size W w' := by
  have O := Lib.hid (fun W => lop10_is a b W)
  have M := Lib.hid (fun c v W => marks_is (b) hr.1 hr.2 c v W)
  clear hr
  obtain ⟨hA, hZ, hB⟩ := flg_two f W
  have hgc := (hB.cell hg).trans hc
  go_enter Try.func100, Try.ntmps100
  go_upto_region 1 with fail
  generalize (W.alloc (.cells #[.bool f.n, .bool f.z, .bool f.c, .bool f.v] 66)).alloc (.cells #[.bool false, .bool false, .bool false, .bool false] 66) = W2 at hA hZ hB hgc ⊢
  have hlt := hZ.lt
  have f0 : W2.cell? ⟨W.heap.size, 0, none⟩ = some (.bool f.n) := hA.cell 0
  have f1 : W2.cell? ⟨W.heap.size, 1, none⟩ = some (.bool f.z) := hA.cell 1
  have f2 : W2.cell? ⟨W.heap.size, 2, none⟩ = some (.bool f.c) := hA.cell 2
  have f3 : W2.cell? ⟨W.heap.size, 3, none⟩ = some (.bool f.v) := hA.cell 3
  clear hA hc
  go_wp2_with (first | (refine wpList_store_all rfl 66 (.tmp 10) (.tmp 21) rfl (W.heap.size + 1) _ rfl rfl (hZ.below b2 hlt) rfl (by rw [flg_size]; rfl) rfl ?_; intro w3 B3 g3 _z) | (go_at_call 101; (with_reducible refine (M.out _ _ _).mono ?_); rintro e w2 ⟨rfl, b2⟩) | (go_at_call 96; (with_reducible refine (O.out _).mono ?_); rintro e w1 ⟨rfl, rfl⟩))
  refine ret_tc 9 10 _ 66 (W.heap.size + 1) _ _ rfl rfl rfl B3.range Try.underlying66 rfl (by rw [flg_size]; rfl) rfl ⟨rfl, ?_⟩
  exact bgrow (bthen hB b2) g3 (by omega)
theorem lcl11_is (a b : Int) (s : Bool) (f : Flg) (g : Nat) (hr : 0 ≤ (bits .andNot .u32 a b) ∧ (bits .andNot .u32 a b) < 4294967296) (W : World) (hg : g < W.heap.size) (hc : W.cell? ⟨g, 0, none⟩ = some (.func (.func 97) #[] #[])) :
    Calls Try.prog 100 #[.int .u32 a, .int .u32 b, .bool s, .agg #[.bool f.n, .bool f.z, .bool f.c, .bool f.v], .pointer (some ⟨g, 0, none⟩)] W fun e w' => e = .returned (.tuple #[.int .u32 (bits .andNot .u32 a b), .agg (flgCells (marksF (bits .andNot .u32 a b) s f.v)).toArray]) ∧ Below W.heap.size W w' := by
  have O := Lib.hid (fun W => lop11_is a b W)
  have M := Lib.hid (fun c v W => marks_is (bits .andNot .u32 a b) hr.1 hr.2 c v W)
  clear hr
  obtain ⟨hA, hZ, hB⟩ := flg_two f W
  have hgc := (hB.cell hg).trans hc
  go_enter Try.func100, Try.ntmps100
  go_upto_region 1 with fail
  generalize (W.alloc (.cells #[.bool f.n, .bool f.z, .bool f.c, .bool f.v] 66)).alloc (.cells #[.bool false, .bool false, .bool false, .bool false] 66) = W2 at hA hZ hB hgc ⊢
  have hlt := hZ.lt
  have f0 : W2.cell? ⟨W.heap.size, 0, none⟩ = some (.bool f.n) := hA.cell 0
  have f1 : W2.cell? ⟨W.heap.size, 1, none⟩ = some (.bool f.z) := hA.cell 1
  have f2 : W2.cell? ⟨W.heap.size, 2, none⟩ = some (.bool f.c) := hA.cell 2
  have f3 : W2.cell? ⟨W.heap.size, 3, none⟩ = some (.bool f.v) := hA.cell 3
  clear hA hc
  go_wp2_with (first | (refine wpList_store_all rfl 66 (.tmp 10) (.tmp 21) rfl (W.heap.size + 1) _ rfl rfl (hZ.below b2 hlt) rfl (by rw [flg_size]; rfl) rfl ?_; intro w3 B3 g3 _z) | (go_at_call 101; (with_reducible refine (M.out _ _ _).mono ?_); rintro e w2 ⟨rfl, b2⟩) | (go_at_call 97; (with_reducible refine (O.out _).mono ?_); rintro e w1 ⟨rfl, rfl⟩))
  refine ret_tc 9 10 _ 66 (W.heap.size + 1) _ _ rfl rfl rfl B3.range Try.underlying66 rfl (by rw [flg_size]; rfl) rfl ⟨rfl, ?_⟩
  exact bgrow (bthen hB b2) g3 (by omega)
theorem lcl12_is (a b : Int) (s : Bool) (f : Flg) (g : Nat) (hr : 0 ≤ (notW b) ∧ (notW b) < 4294967296) (W : World) (hg : g < W.heap.size) (hc : W.cell? ⟨g, 0, none⟩ = some (.func (.func 98) #[] #[])) :
    Calls Try.prog 100 #[.int .u32 a, .int .u32 b, .bool s, .agg #[.bool f.n, .bool f.z, .bool f.c, .bool f.v], .pointer (some ⟨g, 0, none⟩)] W fun e w' => e = .returned (.tuple #[.int .u32 (notW b), .agg (flgCells (marksF (notW b) s f.v)).toArray]) ∧ Below W.heap.size W w' := by
  have O := Lib.hid (fun W => lop12_is a b W)
  have M := Lib.hid (fun c v W => marks_is (notW b) hr.1 hr.2 c v W)
  clear hr
  obtain ⟨hA, hZ, hB⟩ := flg_two f W
  have hgc := (hB.cell hg).trans hc
  go_enter Try.func100, Try.ntmps100
  go_upto_region 1 with fail
  generalize (W.alloc (.cells #[.bool f.n, .bool f.z, .bool f.c, .bool f.v] 66)).alloc (.cells #[.bool false, .bool false, .bool false, .bool false] 66) = W2 at hA hZ hB hgc ⊢
  have hlt := hZ.lt
  have f0 : W2.cell? ⟨W.heap.size, 0, none⟩ = some (.bool f.n) := hA.cell 0
  have f1 : W2.cell? ⟨W.heap.size, 1, none⟩ = some (.bool f.z) := hA.cell 1
  have f2 : W2.cell? ⟨W.heap.size, 2, none⟩ = some (.bool f.c) := hA.cell 2
  have f3 : W2.cell? ⟨W.heap.size, 3, none⟩ = some (.bool f.v) := hA.cell 3
  clear hA hc
  go_wp2_with (first | (refine wpList_store_all rfl 66 (.tmp 10) (.tmp 21) rfl (W.heap.size + 1) _ rfl rfl (hZ.below b2 hlt) rfl (by rw [flg_size]; rfl) rfl ?_; intro w3 B3 g3 _z) | (go_at_call 101; (with_reducible refine (M.out _ _ _).mono ?_); rintro e w2 ⟨rfl, b2⟩) | (go_at_call 98; (with_reducible refine (O.out _).mono ?_); rintro e w1 ⟨rfl, rfl⟩))
  refine ret_tc 9 10 _ 66 (W.heap.size + 1) _ _ rfl rfl rfl B3.range Try.underlying66 rfl (by rw [flg_size]; rfl) rfl ⟨rfl, ?_⟩
  exact bgrow (bthen hB b2) g3 (by omega)
theorem scl3_is (a b : Int) (s : Bool) (f : Flg) (g : Nat) (hx : 0 ≤ a ∧ a < 4294967296) (hy : 0 ≤ notW b ∧ notW b < 4294967296) (W : World) (hg : g < W.heap.size) (hc : W.cell? ⟨g, 0, none⟩ = some (.func (.func 89) #[] #[])) :
    Calls Try.prog 102 #[.int .u32 a, .int .u32 b, .bool s, .agg #[.bool f.n, .bool f.z, .bool f.c, .bool f.v], .pointer (some ⟨g, 0, none⟩)] W fun e w' => e = .returned (.tuple #[.int .u32 (sumW (a) (notW b) true), .agg (flgCells (sumF (a) (notW b) true)).toArray]) ∧ Below W.heap.size W w' := by
  have O := Lib.hid (fun W => sop3_is a b f.c W)
  have M := Lib.hid (fun W => Sum_is (a) (notW b) true hx hy W)
  clear hx hy
  obtain ⟨hA, hZ, hB⟩ := flg_two f W
  have hgc := (hB.cell hg).trans hc
  go_enter Try.func102, Try.ntmps102
  go_upto_region 1 with fail
  generalize (W.alloc (.cells #[.bool f.n, .bool f.z, .bool f.c, .bool f.v] 66)).alloc (.cells #[.bool false, .bool false, .bool false, .bool false] 66) = W2 at hA hZ hB hgc ⊢
  have hlt := hZ.lt
  have f0 : W2.cell? ⟨W.heap.size, 0, none⟩ = some (.bool f.n) := hA.cell 0
  have f1 : W2.cell? ⟨W.heap.size, 1, none⟩ = some (.bool f.z) := hA.cell 1
  have f2 : W2.cell? ⟨W.heap.size, 2, none⟩ = some (.bool f.c) := hA.cell 2
  have f3 : W2.cell? ⟨W.heap.size, 3, none⟩ = some (.bool f.v) := hA.cell 3
  clear hA hc
  go_wp2_with (first | (refine wpList_store_all rfl 66 (.tmp 10) (.tmp 22) rfl (W.heap.size + 1) _ rfl rfl (hZ.below b2 hlt) rfl (by rw [flg_size]; rfl) rfl ?_; intro w3 B3 g3 _z) | (go_at_call 103; (with_reducible refine (M.out _).mono ?_); rintro e w2 ⟨rfl, b2⟩) | (go_at_call 89; (with_reducible refine (O.out _).mono ?_); rintro e w1 ⟨rfl, rfl⟩))
  refine ret_tc 9 10 _ 66 (W.heap.size + 1) _ _ rfl rfl rfl B3.range Try.underlying66 rfl (by rw [flg_size]; rfl) rfl ⟨rfl, ?_⟩
  exact bgrow (bthen hB b2) g3 (by omega)
theorem scl4_is (a b : Int) (s : Bool) (f : Flg) (g : Nat) (hx : 0 ≤ a ∧ a < 4294967296) (hy : 0 ≤ b ∧ b < 4294967296) (W : World) (hg : g < W.heap.size) (hc : W.cell? ⟨g, 0, none⟩ = some (.func (.func 90) #[] #[])) :
    Calls Try.prog 102 #[.int .u32 a, .int .u32 b, .bool s, .agg #[.bool f.n, .bool f.z, .bool f.c, .bool f.v], .pointer (some ⟨g, 0, none⟩)] W fun e w' => e = .returned (.tuple #[.int .u32 (sumW (a) (b) false), .agg (flgCells (sumF (a) (b) false)).toArray]) ∧ Below W.heap.size W w' := by
  have O := Lib.hid (fun W => sop4_is a b f.c W)
  have M := Lib.hid (fun W => Sum_is (a) (b) false hx hy W)
  clear hx hy
  obtain ⟨hA, hZ, hB⟩ := flg_two f W
  have hgc := (hB.cell hg).trans hc
  go_enter Try.func102, Try.ntmps102
  go_upto_region 1 with fail
  generalize (W.alloc (.cells #[.bool f.n, .bool f.z, .bool f.c, .bool f.v] 66)).alloc (.cells #[.bool false, .bool false, .bool false, .bool false] 66) = W2 at hA hZ hB hgc ⊢
  have hlt := hZ.lt
  have f0 : W2.cell? ⟨W.heap.size, 0, none⟩ = some (.bool f.n) := hA.cell 0
  have f1 : W2.cell? ⟨W.heap.size, 1, none⟩ = some (.bool f.z) := hA.cell 1
  have f2 : W2.cell? ⟨W.heap.size, 2, none⟩ = some (.bool f.c) := hA.cell 2
  have f3 : W2.cell? ⟨W.heap.size, 3, none⟩ = some (.bool f.v) := hA.cell 3
  clear hA hc
  go_wp2_with (first | (refine wpList_store_all rfl 66 (.tmp 10) (.tmp 22) rfl (W.heap.size + 1) _ rfl rfl (hZ.below b2 hlt) rfl (by rw [flg_size]; rfl) rfl ?_; intro w3 B3 g3 _z) | (go_at_call 103; (with_reducible refine (M.out _).mono ?_); rintro e w2 ⟨rfl, b2⟩) | (go_at_call 90; (with_reducible refine (O.out _).mono ?_); rintro e w1 ⟨rfl, rfl⟩))
  refine ret_tc 9 10 _ 66 (W.heap.size + 1) _ _ rfl rfl rfl B3.range Try.underlying66 rfl (by rw [flg_size]; rfl) rfl ⟨rfl, ?_⟩
  exact bgrow (bthen hB b2) g3 (by omega)
theorem scl5_is (a b : Int) (s : Bool) (f : Flg) (g : Nat) (hx : 0 ≤ notW a ∧ notW a < 4294967296) (hy : 0 ≤ b ∧ b < 4294967296) (W : World) (hg : g < W.heap.size) (hc : W.cell? ⟨g, 0, none⟩ = some (.func (.func 91) #[] #[])) :
    Calls Try.prog 102 #[.int .u32 a, .int .u32 b, .bool s, .agg #[.bool f.n, .bool f.z, .bool f.c, .bool f.v], .pointer (some ⟨g, 0, none⟩)] W fun e w' => e = .returned (.tuple #[.int .u32 (sumW (notW a) (b) true), .agg (flgCells (sumF (notW a) (b) true)).toArray]) ∧ Below W.heap.size W w' := by
  have O := Lib.hid (fun W => sop5_is a b f.c W)
  have M := Lib.hid (fun W => Sum_is (notW a) (b) true hx hy W)
  clear hx hy
  obtain ⟨hA, hZ, hB⟩ := flg_two f W
  have hgc := (hB.cell hg).trans hc
  go_enter Try.func102, Try.ntmps102
  go_upto_region 1 with fail
  generalize (W.alloc (.cells #[.bool f.n, .bool f.z, .bool f.c, .bool f.v] 66)).alloc (.cells #[.bool false, .bool false, .bool false, .bool false] 66) = W2 at hA hZ hB hgc ⊢
  have hlt := hZ.lt
  have f0 : W2.cell? ⟨W.heap.size, 0, none⟩ = some (.bool f.n) := hA.cell 0
  have f1 : W2.cell? ⟨W.heap.size, 1, none⟩ = some (.bool f.z) := hA.cell 1
  have f2 : W2.cell? ⟨W.heap.size, 2, none⟩ = some (.bool f.c) := hA.cell 2
  have f3 : W2.cell? ⟨W.heap.size, 3, none⟩ = some (.bool f.v) := hA.cell 3
  clear hA hc
  go_wp2_with (first | (refine wpList_store_all rfl 66 (.tmp 10) (.tmp 22) rfl (W.heap.size + 1) _ rfl rfl (hZ.below b2 hlt) rfl (by rw [flg_size]; rfl) rfl ?_; intro w3 B3 g3 _z) | (go_at_call 103; (with_reducible refine (M.out _).mono ?_); rintro e w2 ⟨rfl, b2⟩) | (go_at_call 91; (with_reducible refine (O.out _).mono ?_); rintro e w1 ⟨rfl, rfl⟩))
  refine ret_tc 9 10 _ 66 (W.heap.size + 1) _ _ rfl rfl rfl B3.range Try.underlying66 rfl (by rw [flg_size]; rfl) rfl ⟨rfl, ?_⟩
  exact bgrow (bthen hB b2) g3 (by omega)
theorem scl6_is (a b : Int) (s : Bool) (f : Flg) (g : Nat) (hx : 0 ≤ a ∧ a < 4294967296) (hy : 0 ≤ b ∧ b < 4294967296) (W : World) (hg : g < W.heap.size) (hc : W.cell? ⟨g, 0, none⟩ = some (.func (.func 92) #[] #[])) :
    Calls Try.prog 102 #[.int .u32 a, .int .u32 b, .bool s, .agg #[.bool f.n, .bool f.z, .bool f.c, .bool f.v], .pointer (some ⟨g, 0, none⟩)] W fun e w' => e = .returned (.tuple #[.int .u32 (sumW (a) (b) f.c), .agg (flgCells (sumF (a) (b) f.c)).toArray]) ∧ Below W.heap.size W w' := by
  have O := Lib.hid (fun W => sop6_is a b f.c W)
  have M := Lib.hid (fun W => Sum_is (a) (b) f.c hx hy W)
  clear hx hy
  obtain ⟨hA, hZ, hB⟩ := flg_two f W
  have hgc := (hB.cell hg).trans hc
  go_enter Try.func102, Try.ntmps102
  go_upto_region 1 with fail
  generalize (W.alloc (.cells #[.bool f.n, .bool f.z, .bool f.c, .bool f.v] 66)).alloc (.cells #[.bool false, .bool false, .bool false, .bool false] 66) = W2 at hA hZ hB hgc ⊢
  have hlt := hZ.lt
  have f0 : W2.cell? ⟨W.heap.size, 0, none⟩ = some (.bool f.n) := hA.cell 0
  have f1 : W2.cell? ⟨W.heap.size, 1, none⟩ = some (.bool f.z) := hA.cell 1
  have f2 : W2.cell? ⟨W.heap.size, 2, none⟩ = some (.bool f.c) := hA.cell 2
  have f3 : W2.cell? ⟨W.heap.size, 3, none⟩ = some (.bool f.v) := hA.cell 3
  clear hA hc
  go_wp2_with (first | (refine wpList_store_all rfl 66 (.tmp 10) (.tmp 22) rfl (W.heap.size + 1) _ rfl rfl (hZ.below b2 hlt) rfl (by rw [flg_size]; rfl) rfl ?_; intro w3 B3 g3 _z) | (go_at_call 103; (with_reducible refine (M.out _).mono ?_); rintro e w2 ⟨rfl, b2⟩) | (go_at_call 92; (with_reducible refine (O.out _).mono ?_); rintro e w1 ⟨rfl, rfl⟩))
  refine ret_tc 9 10 _ 66 (W.heap.size + 1) _ _ rfl rfl rfl B3.range Try.underlying66 rfl (by rw [flg_size]; rfl) rfl ⟨rfl, ?_⟩
  exact bgrow (bthen hB b2) g3 (by omega)
theorem scl7_is (a b : Int) (s : Bool) (f : Flg) (g : Nat) (hx : 0 ≤ a ∧ a < 4294967296) (hy : 0 ≤ notW b ∧ notW b < 4294967296) (W : World) (hg : g < W.heap.size) (hc : W.cell? ⟨g, 0, none⟩ = some (.func (.func 93) #[] #[])) :
    Calls Try.prog 102 #[.int .u32 a, .int .u32 b, .bool s, .agg #[.bool f.n, .bool f.z, .bool f.c, .bool f.v], .pointer (some ⟨g, 0, none⟩)] W fun e w' => e = .returned (.tuple #[.int .u32 (sumW (a) (notW b) f.c), .agg (flgCells (sumF (a) (notW b) f.c)).toArray]) ∧ Below W.heap.size W w' := by
  have O := Lib.hid (fun W => sop7_is a b f.c W)
  have M := Lib.hid (fun W => Sum_is (a) (notW b) f.c hx hy W)
  clear hx hy
  obtain ⟨hA, hZ, hB⟩ := flg_two f W
  have hgc := (hB.cell hg).trans hc
  go_enter Try.func102, Try.ntmps102
  go_upto_region 1 with fail
  generalize (W.alloc (.cells #[.bool f.n, .bool f.z, .bool f.c, .bool f.v] 66)).alloc (.cells #[.bool false, .bool false, .bool false, .bool false] 66) = W2 at hA hZ hB hgc ⊢
  have hlt := hZ.lt
  have f0 : W2.cell? ⟨W.heap.size, 0, none⟩ = some (.bool f.n) := hA.cell 0
  have f1 : W2.cell? ⟨W.heap.size, 1, none⟩ = some (.bool f.z) := hA.cell 1
  have f2 : W2.cell? ⟨W.heap.size, 2, none⟩ = some (.bool f.c) := hA.cell 2
  have f3 : W2.cell? ⟨W.heap.size, 3, none⟩ = some (.bool f.v) := hA.cell 3
  clear hA hc
  go_wp2_with (first | (refine wpList_store_all rfl 66 (.tmp 10) (.tmp 22) rfl (W.heap.size + 1) _ rfl rfl (hZ.below b2 hlt) rfl (by rw [flg_size]; rfl) rfl ?_; intro w3 B3 g3 _z) | (go_at_call 103; (with_reducible refine (M.out _).mono ?_); rintro e w2 ⟨rfl, b2⟩) | (go_at_call 93; (with_reducible refine (O.out _).mono ?_); rintro e w1 ⟨rfl, rfl⟩))
  refine ret_tc 9 10 _ 66 (W.heap.size + 1) _ _ rfl rfl rfl B3.range Try.underlying66 rfl (by rw [flg_size]; rfl) rfl ⟨rfl, ?_⟩
  exact bgrow (bthen hB b2) g3 (by omega)
theorem scl8_is (a b : Int) (s : Bool) (f : Flg) (g : Nat) (hx : 0 ≤ notW a ∧ notW a < 4294967296) (hy : 0 ≤ b ∧ b < 4294967296) (W : World) (hg : g < W.heap.size) (hc : W.cell? ⟨g, 0, none⟩ = some (.func (.func 94) #[] #[])) :
    Calls Try.prog 102 #[.int .u32 a, .int .u32 b, .bool s, .agg #[.bool f.n, .bool f.z, .bool f.c, .bool f.v], .pointer (some ⟨g, 0, none⟩)] W fun e w' => e = .returned (.tuple #[.int .u32 (sumW (notW a) (b) f.c), .agg (flgCells (sumF (notW a) (b) f.c)).toArray]) ∧ Below W.heap.size W w' := by
  have O := Lib.hid (fun W => sop8_is a b f.c W)
  have M := Lib.hid (fun W => Sum_is (notW a) (b) f.c hx hy W)
  clear hx hy
  obtain ⟨hA, hZ, hB⟩ := flg_two f W
  have hgc := (hB.cell hg).trans hc
  go_enter Try.func102, Try.ntmps102
  go_upto_region 1 with fail
  generalize (W.alloc (.cells #[.bool f.n, .bool f.z, .bool f.c, .bool f.v] 66)).alloc (.cells #[.bool false, .bool false, .bool false, .bool false] 66) = W2 at hA hZ hB hgc ⊢
  have hlt := hZ.lt
  have f0 : W2.cell? ⟨W.heap.size, 0, none⟩ = some (.bool f.n) := hA.cell 0
  have f1 : W2.cell? ⟨W.heap.size, 1, none⟩ = some (.bool f.z) := hA.cell 1
  have f2 : W2.cell? ⟨W.heap.size, 2, none⟩ = some (.bool f.c) := hA.cell 2
  have f3 : W2.cell? ⟨W.heap.size, 3, none⟩ = some (.bool f.v) := hA.cell 3
  clear hA hc
  go_wp2_with (first | (refine wpList_store_all rfl 66 (.tmp 10) (.tmp 22) rfl (W.heap.size + 1) _ rfl rfl (hZ.below b2 hlt) rfl (by rw [flg_size]; rfl) rfl ?_; intro w3 B3 g3 _z) | (go_at_call 103; (with_reducible refine (M.out _).mono ?_); rintro e w2 ⟨rfl, b2⟩) | (go_at_call 94; (with_reducible refine (O.out _).mono ?_); rintro e w1 ⟨rfl, rfl⟩))
  refine ret_tc 9 10 _ 66 (W.heap.size + 1) _ _ rfl rfl rfl B3.range Try.underlying66 rfl (by rw [flg_size]; rfl) rfl ⟨rfl, ?_⟩
  exact bgrow (bthen hB b2) g3 (by omega)
end Go.Proofs.Ytpfhplhamnohjaa
namespace Go.Proofs.Ytpfhplhamnohjaa
set_option maxHeartbeats 25600000
set_option maxRecDepth 100000
open Go.RowKit

/-- a closure's variable holds that function -/
def ClAt (w : World) (B g : Nat) (F : FuncId) : Prop := B ≤ g ∧ g < w.heap.size ∧ w.cell? ⟨g, 0, none⟩ = some (.func (.func F) #[] #[])
theorem ClAt.below {w w' : World} {B g : Nat} {F : FuncId} (h : ClAt w B g F) (k : Below w.heap.size w w') : ClAt w' B g F := ⟨h.1, Nat.lt_of_lt_of_le h.2.1 k.size, (k.cell h.2.1).trans h.2.2⟩
theorem ClAt.grown {w w' : World} {B g x : Nat} {F : FuncId} (h : ClAt w B g F) (k : w.grownBy w' (some x)) (hx : x < B) : ClAt w' B g F := ⟨h.1, Nat.lt_of_lt_of_le h.2.1 k.size, (gcell k h.2.1 (fun e => by have := Option.some.inj e; have := h.1; omega)).trans h.2.2⟩
theorem ClAt.mono {w : World} {A B g : Nat} {F : FuncId} (h : ClAt w B g F) (k : A ≤ B) : ClAt w A g F := ⟨Nat.le_trans k h.1, h.2⟩
theorem clAt_new {w w' : World} {F : FuncId} {t : TypeId} (h : w.alloc (.cells #[.func (.func F) #[] #[]] t) = w') : ClAt w' w.heap.size w.heap.size F ∧ Below w.heap.size w w' := by
  subst h
  exact ⟨⟨Nat.le_refl _, by simp, (Blok.new w t [.func (.func F) #[] #[]]).cell 0⟩, (Below.refl _ _).alloc (Nat.le_refl _) _⟩
theorem logical_ex (F : FuncId) (W : World) : Calls Try.prog 85 #[.func (.func F) #[] #[]] W fun e w' => ∃ g, e = .returned (.func (.func 100) #[] #[.pointer (some ⟨g, 0, none⟩)]) ∧ ClAt w' W.heap.size g F ∧ Below W.heap.size W w' :=
  (logical_is F W).mono (fun _ _ h => ⟨W.heap.size, h.1, (clAt_new h.2.choose_spec).1, (clAt_new h.2.choose_spec).2⟩)
theorem summed_ex (F : FuncId) (W : World) : Calls Try.prog 88 #[.func (.func F) #[] #[]] W fun e w' => ∃ g, e = .returned (.func (.func 102) #[] #[.pointer (some ⟨g, 0, none⟩)]) ∧ ClAt w' W.heap.size g F ∧ Below W.heap.size W w' :=
  (summed_is F W).mono (fun _ _ h => ⟨W.heap.size, h.1, (clAt_new h.2.choose_spec).1, (clAt_new h.2.choose_spec).2⟩)
theorem operations_is (W : World) :
    Calls Try.prog 80 #[] W fun e w' => ∃ g1 g2 g3 g4 g5 g6 g7 g8 g9 g10 g11 g12, e = .returned (.agg #[.nilFunc, (.func (.func 100) #[] #[.pointer (some ⟨g1, 0, none⟩)]), (.func (.func 100) #[] #[.pointer (some ⟨g2, 0, none⟩)]), (.func (.func 102) #[] #[.pointer (some ⟨g3, 0, none⟩)]), (.func (.func 102) #[] #[.pointer (some ⟨g5, 0, none⟩)]), (.func (.func 102) #[] #[.pointer (some ⟨g4, 0, none⟩)]), (.func (.func 102) #[] #[.pointer (some ⟨g6, 0, none⟩)]), (.func (.func 102) #[] #[.pointer (some ⟨g7, 0, none⟩)]), (.func (.func 102) #[] #[.pointer (some ⟨g8, 0, none⟩)]), (.func (.func 100) #[] #[.pointer (some ⟨g1, 0, none⟩)]), (.func (.func 100) #[] #[.pointer (some ⟨g2, 0, none⟩)]), (.func (.func 102) #[] #[.pointer (some ⟨g3, 0, none⟩)]), (.func (.func 102) #[] #[.pointer (some ⟨g4, 0, none⟩)]), (.func (.func 100) #[] #[.pointer (some ⟨g9, 0, none⟩)]), (.func (.func 100) #[] #[.pointer (some ⟨g10, 0, none⟩)]), (.func (.func 100) #[] #[.pointer (some ⟨g11, 0, none⟩)]), (.func (.func 100) #[] #[.pointer (some ⟨g12, 0, none⟩)])]) ∧ ClAt w' W.heap.size g1 86 ∧ ClAt w' W.heap.size g2 87 ∧ ClAt w' W.heap.size g3 89 ∧ ClAt w' W.heap.size g4 90 ∧ ClAt w' W.heap.size g5 91 ∧ ClAt w' W.heap.size g6 92 ∧ ClAt w' W.heap.size g7 93 ∧ ClAt w' W.heap.size g8 94 ∧ ClAt w' W.heap.size g9 95 ∧ ClAt w' W.heap.size g10 96 ∧ ClAt w' W.heap.size g11 97 ∧ ClAt w' W.heap.size g12 98 ∧ Below W.heap.size W w' := by
  have hZ : Blok (W.alloc (.cells #[.nilFunc, .nilFunc, .nilFunc, .nilFunc, .nilFunc, .nilFunc, .nilFunc, .nilFunc, .nilFunc, .nilFunc, .nilFunc, .nilFunc, .nilFunc, .nilFunc, .nilFunc, .nilFunc, .nilFunc] 150)) W.heap.size 150 [.nilFunc, .nilFunc, .nilFunc, .nilFunc, .nilFunc, .nilFunc, .nilFunc, .nilFunc, .nilFunc, .nilFunc, .nilFunc, .nilFunc, .nilFunc, .nilFunc, .nilFunc, .nilFunc, .nilFunc] := Blok.new W _ [.nilFunc, .nilFunc, .nilFunc, .nilFunc, .nilFunc, .nilFunc, .nilFunc, .nilFunc, .nilFunc, .nilFunc, .nilFunc, .nilFunc, .nilFunc, .nilFunc, .nilFunc, .nilFunc, .nilFunc]
  have hB0 : Below W.heap.size W (W.alloc (.cells #[.nilFunc, .nilFunc, .nilFunc, .nilFunc, .nilFunc, .nilFunc, .nilFunc, .nilFunc, .nilFunc, .nilFunc, .nilFunc, .nilFunc, .nilFunc, .nilFunc, .nilFunc, .nilFunc, .nilFunc] 150)) := (Below.refl _ _).alloc (Nat.le_refl _) _
  go_enter Try.func80, Try.ntmps80
  go_upto_region 1 with fail
  generalize W.alloc (.cells #[.nilFunc, .nilFunc, .nilFunc, .nilFunc, .nilFunc, .nilFunc, .nilFunc, .nilFunc, .nilFunc, .nilFunc, .nilFunc, .nilFunc, .nilFunc, .nilFunc, .nilFunc, .nilFunc, .nilFunc] 150) = v0 at hZ hB0 ⊢
  have h0 := hZ.lt
  go_upto_region 2 with (go_at_call 85; (with_reducible refine (logical_ex 86 v0).mono ?_); rintro e v1 ⟨g1, rfl, c1, b1⟩)
  go_upto_region 3 with (go_at_call 85; (with_reducible refine (logical_ex 87 v1).mono ?_); rintro e v2 ⟨g2, rfl, c2, b2⟩)
  go_upto_region 4 with (go_at_call 88; (with_reducible refine (summed_ex 89 v2).mono ?_); rintro e v3 ⟨g3, rfl, c3, b3⟩)
  go_upto_region 5 with (go_at_call 88; (with_reducible refine (summed_ex 90 v3).mono ?_); rintro e v4 ⟨g4, rfl, c4, b4⟩)
  go_wp2_with (first | (refine wpList_store_all rfl 150 (.tmp 0) (.tmp 25) rfl W.heap.size _ rfl rfl hZ12 rfl (by kernel_rfl) rfl ?_; intro v13 B13 g13 _z) | (go_at_call 85; (with_reducible refine (logical_ex 98 v11).mono ?_); rintro e v12 ⟨g12, rfl, c12, b12⟩; have hZ12 := hZ.below (bthen (bthen (bthen (bthen (bthen (bthen (bthen (bthen (bthen (bthen (bthen b1 b2) b3) b4) b5) b6) b7) b8) b9) b10) b11) b12) h0) | (go_at_call 85; (with_reducible refine (logical_ex 97 v10).mono ?_); rintro e v11 ⟨g11, rfl, c11, b11⟩)  | (go_at_call 85; (with_reducible refine (logical_ex 96 v9).mono ?_); rintro e v10 ⟨g10, rfl, c10, b10⟩)  | (go_at_call 85; (with_reducible refine (logical_ex 95 v8).mono ?_); rintro e v9 ⟨g9, rfl, c9, b9⟩)  | (go_at_call 88; (with_reducible refine (summed_ex 94 v7).mono ?_); rintro e v8 ⟨g8, rfl, c8, b8⟩)  | (go_at_call 88; (with_reducible refine (summed_ex 93 v6).mono ?_); rintro e v7 ⟨g7, rfl, c7, b7⟩)  | (go_at_call 88; (with_reducible refine (summed_ex 92 v5).mono ?_); rintro e v6 ⟨g6, rfl, c6, b6⟩)  | (go_at_call 88; (with_reducible refine (summed_ex 91 v4).mono ?_); rintro e v5 ⟨g5, rfl, c5, b5⟩) )
  have hB12 : Below W.heap.size W v12 := hB0.trans ((bthen (bthen (bthen (bthen (bthen (bthen (bthen (bthen (bthen (bthen (bthen b1 b2) b3) b4) b5) b6) b7) b8) b9) b10) b11) b12).mono (Nat.le_of_lt h0))
  have k1 : ClAt v13 W.heap.size g1 _ := (((c1.below (bthen (bthen (bthen (bthen (bthen (bthen (bthen (bthen (bthen (bthen b2 b3) b4) b5) b6) b7) b8) b9) b10) b11) b12)).mono (Nat.le_trans h0 (Nat.le_refl _))).grown g13 (Nat.lt_succ_self _)).mono (Nat.le_succ _)
  have k2 : ClAt v13 W.heap.size g2 _ := (((c2.below (bthen (bthen (bthen (bthen (bthen (bthen (bthen (bthen (bthen b3 b4) b5) b6) b7) b8) b9) b10) b11) b12)).mono (Nat.le_trans h0 b1.size)).grown g13 (Nat.lt_succ_self _)).mono (Nat.le_succ _)
  have k3 : ClAt v13 W.heap.size g3 _ := (((c3.below (bthen (bthen (bthen (bthen (bthen (bthen (bthen (bthen b4 b5) b6) b7) b8) b9) b10) b11) b12)).mono (Nat.le_trans h0 (bthen b1 b2).size)).grown g13 (Nat.lt_succ_self _)).mono (Nat.le_succ _)
  have k4 : ClAt v13 W.heap.size g4 _ := (((c4.below (bthen (bthen (bthen (bthen (bthen (bthen (bthen b5 b6) b7) b8) b9) b10) b11) b12)).mono (Nat.le_trans h0 (bthen (bthen b1 b2) b3).size)).grown g13 (Nat.lt_succ_self _)).mono (Nat.le_succ _)
  have k5 : ClAt v13 W.heap.size g5 _ := (((c5.below (bthen (bthen (bthen (bthen (bthen (bthen b6 b7) b8) b9) b10) b11) b12)).mono (Nat.le_trans h0 (bthen (bthen (bthen b1 b2) b3) b4).size)).grown g13 (Nat.lt_succ_self _)).mono (Nat.le_succ _)
  have k6 : ClAt v13 W.heap.size g6 _ := (((c6.below (bthen (bthen (bthen (bthen (bthen b7 b8) b9) b10) b11) b12)).mono (Nat.le_trans h0 (bthen (bthen (bthen (bthen b1 b2) b3) b4) b5).size)).grown g13 (Nat.lt_succ_self _)).mono (Nat.le_succ _)
  have k7 : ClAt v13 W.heap.size g7 _ := (((c7.below (bthen (bthen (bthen (bthen b8 b9) b10) b11) b12)).mono (Nat.le_trans h0 (bthen (bthen (bthen (bthen (bthen b1 b2) b3) b4) b5) b6).size)).grown g13 (Nat.lt_succ_self _)).mono (Nat.le_succ _)
  have k8 : ClAt v13 W.heap.size g8 _ := (((c8.below (bthen (bthen (bthen b9 b10) b11) b12)).mono (Nat.le_trans h0 (bthen (bthen (bthen (bthen (bthen (bthen b1 b2) b3) b4) b5) b6) b7).size)).grown g13 (Nat.lt_succ_self _)).mono (Nat.le_succ _)
  have k9 : ClAt v13 W.heap.size g9 _ := (((c9.below (bthen (bthen b10 b11) b12)).mono (Nat.le_trans h0 (bthen (bthen (bthen (bthen (bthen (bthen (bthen b1 b2) b3) b4) b5) b6) b7) b8).size)).grown g13 (Nat.lt_succ_self _)).mono (Nat.le_succ _)
  have k10 : ClAt v13 W.heap.size g10 _ := (((c10.below (bthen b11 b12)).mono (Nat.le_trans h0 (bthen (bthen (bthen (bthen (bthen (bthen (bthen (bthen b1 b2) b3) b4) b5) b6) b7) b8) b9).size)).grown g13 (Nat.lt_succ_self _)).mono (Nat.le_succ _)
  have k11 : ClAt v13 W.heap.size g11 _ := (((c11.below b12).mono (Nat.le_trans h0 (bthen (bthen (bthen (bthen (bthen (bthen (bthen (bthen (bthen b1 b2) b3) b4) b5) b6) b7) b8) b9) b10).size)).grown g13 (Nat.lt_succ_self _)).mono (Nat.le_succ _)
  have k12 : ClAt v13 W.heap.size g12 _ := ((c12.mono (Nat.le_trans h0 (bthen (bthen (bthen (bthen (bthen (bthen (bthen (bthen (bthen (bthen b1 b2) b3) b4) b5) b6) b7) b8) b9) b10) b11).size)).grown g13 (Nat.lt_succ_self _)).mono (Nat.le_succ _)
  refine ret_cell 0 150 W.heap.size _ _ rfl rfl B13.range Try.underlying150 rfl (by kernel_rfl) rfl ⟨g1, g2, g3, g4, g5, g6, g7, g8, g9, g10, g11, g12, rfl, k1, k2, k3, k4, k5, k6, k7, k8, k9, k10, k11, k12, bgrow hB12 g13 (Nat.le_refl _)⟩
end Go.Proofs.Ytpfhplhamnohjaa
namespace Go.Proofs.Ytpfhplhamnohjaa
open Go.RowKit

theorem bal {wr w : World} (h : Below wr.heap.size wr w) (o : Obj) : Below wr.heap.size wr (w.alloc o) := h.alloc h.size o
theorem ret_ttc {P : Program} {fn : Func} {R : Ending → World → Prop} {a : Act} {w : World} (u x k : Nat) (v y : Value) (ty : TypeId) (b : Nat) (cs : List Value) (d : TypeDesc) (hr : fn.results = #[.tmp u, .tmp x, .cell k ty]) (hv : a.tmps.getD u undef = v) (hy : a.tmps.getD x undef = y) (ht : a.tmps.getD k undef = .pointer (some ⟨b, 0, none⟩))
    (hc : w.rangeAt b 0 cs) (hu : P.underlying ty = some d) (hd : d.isRow = true) (hi : (P.info? ty).map (·.size) = some cs.length) (hdef : a.defers = []) (hR : R (.returned (.tuple #[v, y, .agg cs.toArray])) w) : bodyPost P fn R .ret a w := by
  refine bodyPost_ret (v := .tuple #[v, y, .agg cs.toArray]) ?_ hdef hR
  have ht' : a.tmps[k]?.getD undef = .pointer (some ⟨b, 0, none⟩) := by simpa using ht
  have hv' : a.tmps[u]?.getD undef = v := by simpa using hv
  have hy' : a.tmps[x]?.getD undef = y := by simpa using hy
  simp [results, hr, ht', hv', hy', asAddr, run_loadVar_mid w b 0 ty cs d hc hu hd hi]
theorem flgCells_lit (F : Flg) : (flgCells F).toArray = #[.bool F.n, .bool F.z, .bool F.c, .bool F.v] := rfl
end Go.Proofs.Ytpfhplhamnohjaa
