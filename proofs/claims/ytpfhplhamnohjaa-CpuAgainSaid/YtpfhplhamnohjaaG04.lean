/- Layer 18: Passed, Flags. Layer 18: marks, Add32, Sum, Word. Layer 18: RotateLeft32. Layer 18: Word. -/
import Derived.Test.YtpfhplhamnohjaaG01
namespace Go.Proofs.Ytpfhplhamnohjaa
set_option maxHeartbeats 25600000
set_option maxRecDepth 100000
open Go.RowKit

theorem Passed_is (cond : Int) (n z c v : Bool) (W : World) :
    Calls Try.prog 21 #[.int .i64 cond, .agg #[.bool n, .bool z, .bool c, .bool v]] W fun e w' => e = .returned (.bool (passedB cond ⟨n, z, c, v⟩)) ∧ Below W.heap.size W w' := by
  have hB : ∀ o, Below W.heap.size W (W.alloc o) := fun o => (Below.refl _ _).alloc (Nat.le_refl _) _
  by_cases h : cond = 0 ∨ cond = 1 ∨ cond = 2 ∨ cond = 3 ∨ cond = 4 ∨ cond = 5 ∨ cond = 6 ∨ cond = 7 ∨ cond = 10 ∨ cond = 11 ∨ cond = 14
  · rcases h with rfl | rfl | rfl | rfl | rfl | rfl | rfl | rfl | rfl | rfl | rfl
    all_goals
      go_enter Try.func21, Try.ntmps21
      go_wp2
      go_ret
      refine ⟨?_, hB _⟩
      congr 2
  by_cases h8 : cond = 8 ∨ cond = 9
  · rcases h8 with rfl | rfl
    all_goals
      cases c
      all_goals
        go_enter Try.func21, Try.ntmps21
        go_wp2
        go_ret
        refine ⟨?_, hB _⟩
        cases z <;> rfl
  by_cases h12 : cond = 12 ∨ cond = 13
  · rcases h12 with rfl | rfl
    all_goals
      cases z
      all_goals
        go_enter Try.func21, Try.ntmps21
        go_wp2
        go_ret
        refine ⟨?_, hB _⟩
        cases n <;> cases v <;> rfl
  have e0 : (cond == 0) = false := by simp; omega
  have e1 : (cond == 1) = false := by simp; omega
  have e2 : (cond == 2) = false := by simp; omega
  have e3 : (cond == 3) = false := by simp; omega
  have e4 : (cond == 4) = false := by simp; omega
  have e5 : (cond == 5) = false := by simp; omega
  have e6 : (cond == 6) = false := by simp; omega
  have e7 : (cond == 7) = false := by simp; omega
  have e8 : (cond == 8) = false := by simp; omega
  have e9 : (cond == 9) = false := by simp; omega
  have e10 : (cond == 10) = false := by simp; omega
  have e11 : (cond == 11) = false := by simp; omega
  have e12 : (cond == 12) = false := by simp; omega
  have e13 : (cond == 13) = false := by simp; omega
  have e14 : (cond == 14) = false := by simp; omega
  have HE := Lib.hid (show passedB cond ⟨n, z, c, v⟩ = false by
    unfold passedB
    rw [if_neg (by omega), if_neg (by omega)])
  clear h h8 h12
  go_enter Try.func21, Try.ntmps21
  go_wp2
  go_ret
  exact ⟨by rw [HE.out]; rfl, hB _⟩
theorem Flags_is (w : Int) (h0 : 0 ≤ w) (h1 : w < 4294967296) (W : World) :
    Calls Try.prog 22 #[.int .u32 w] W fun e w' => e = .returned (.agg #[.bool (bt w 31), .bool (bt w 30), .bool (bt w 29), .bool (bt w 28)]) ∧ Below W.heap.size W w' := by
  have hB : ∀ o, Below W.heap.size W (W.alloc o) := fun o => (Below.refl _ _).alloc (Nat.le_refl _) _
  have e31 : (bits .and .u32 (w / 2147483648) 1 == 1) = bt w 31 := bt_eq w h0 h1 31
  have e30 : (bits .and .u32 (w / 1073741824) 1 == 1) = bt w 30 := bt_eq w h0 h1 30
  have e29 : (bits .and .u32 (w / 536870912) 1 == 1) = bt w 29 := bt_eq w h0 h1 29
  have e28 : (bits .and .u32 (w / 268435456) 1 == 1) = bt w 28 := bt_eq w h0 h1 28
  go_enter Try.func22, Try.ntmps22
  go_wp2
  refine ret_cell 2 66 W.heap.size [.bool (bt w 31), .bool (bt w 30), .bool (bt w 29), .bool (bt w 28)] _ rfl rfl (rangeAt_new W #[.bool (bt w 31), .bool (bt w 30), .bool (bt w 29), .bool (bt w 28)] _) Try.underlying66 rfl (by kernel_rfl) rfl ⟨rfl, hB _⟩
theorem w1 (w : Int) (h : 0 ≤ w) (h1 : w < 4294967296) : (w / 2147483648 == 1) = bt w 31 := by
  have h2 : (2 : Int) ^ 31 = 2147483648 := by decide
  unfold bt
  rw [h2, show w / 2147483648 % 2 = w / 2147483648 by omega]
  rfl
end Go.Proofs.Ytpfhplhamnohjaa
namespace Go.Proofs.Ytpfhplhamnohjaa
set_option maxHeartbeats 25600000
set_option maxRecDepth 100000
open Go.RowKit

theorem marks_is (w : Int) (h0 : 0 ≤ w) (h1 : w < 4294967296) (c v : Bool) (W : World) :
    Calls Try.prog 101 #[.int .u32 w, .bool c, .bool v] W fun e w' => e = .returned (.agg #[.bool (bt w 31), .bool (w == 0), .bool c, .bool v]) ∧ Below W.heap.size W w' := by
  have hB : ∀ o, Below W.heap.size W (W.alloc o) := fun o => (Below.refl _ _).alloc (Nat.le_refl _) _
  have e31 := w1 w h0 h1
  go_enter Try.func101, Try.ntmps101
  go_wp2
  refine ret_cell 6 66 W.heap.size [.bool (bt w 31), .bool (w == 0), .bool c, .bool v] _ rfl rfl (rangeAt_new W #[.bool (bt w 31), .bool (w == 0), .bool c, .bool v] _) Try.underlying66 rfl (by kernel_rfl) rfl ⟨rfl, hB _⟩
theorem Add32_is (x y k : Int) (hx : 0 ≤ x ∧ x < 4294967296) (hy : 0 ≤ y ∧ y < 4294967296) (hk : 0 ≤ k ∧ k < 2) (W : World) :
    Calls Try.prog 104 #[.int .u32 x, .int .u32 y, .int .u32 k] W fun e w' => e = .returned (.tuple #[.int .u32 ((x + y + k) % 4294967296), .int .u32 ((x + y + k) / 4294967296)]) ∧ W = w' := by
  have d1 : x % 18446744073709551616 = x := by omega
  have d2 : y % 18446744073709551616 = y := by omega
  have d3 : k % 18446744073709551616 = k := by omega
  have d4 : (x + y) % 18446744073709551616 = x + y := by omega
  have d5 : (x + y + k) % 18446744073709551616 = x + y + k := by omega
  clear hx hy hk
  go_enter Try.func104, Try.ntmps104
  go_wp2
  go_ret2
  exact ⟨rfl, rfl⟩
theorem ret_tc {P : Program} {fn : Func} {R : Ending → World → Prop} {a : Act} {w : World} (u k : Nat) (v : Value) (ty : TypeId) (b : Nat) (cs : List Value) (d : TypeDesc) (hr : fn.results = #[.tmp u, .cell k ty]) (hv : a.tmps.getD u undef = v) (ht : a.tmps.getD k undef = .pointer (some ⟨b, 0, none⟩))
    (hc : w.rangeAt b 0 cs) (hu : P.underlying ty = some d) (hd : d.isRow = true) (hi : (P.info? ty).map (·.size) = some cs.length) (hdef : a.defers = []) (hR : R (.returned (.tuple #[v, .agg cs.toArray])) w) : bodyPost P fn R .ret a w := by
  refine bodyPost_ret (v := .tuple #[v, .agg cs.toArray]) ?_ hdef hR
  have ht' : a.tmps[k]?.getD undef = .pointer (some ⟨b, 0, none⟩) := by simpa using ht
  have hv' : a.tmps[u]?.getD undef = v := by simpa using hv
  simp [results, hr, ht', hv', asAddr, run_loadVar_mid w b 0 ty cs d hc hu hd hi]
def flgCells (f : Flg) : List Value := [.bool f.n, .bool f.z, .bool f.c, .bool f.v]
theorem flg_two (f : Flg) (W : World) : Blok ((W.alloc (.cells #[.bool f.n, .bool f.z, .bool f.c, .bool f.v] 66)).alloc (.cells #[.bool false, .bool false, .bool false, .bool false] 66)) W.heap.size 66 (flgCells f) ∧ Blok ((W.alloc (.cells #[.bool f.n, .bool f.z, .bool f.c, .bool f.v] 66)).alloc (.cells #[.bool false, .bool false, .bool false, .bool false] 66)) (W.heap.size + 1) 66 (flgCells ⟨false, false, false, false⟩) ∧ Below W.heap.size W ((W.alloc (.cells #[.bool f.n, .bool f.z, .bool f.c, .bool f.v] 66)).alloc (.cells #[.bool false, .bool false, .bool false, .bool false] 66)) := by
  refine ⟨(Blok.new W _ (flgCells f)).alloc _, ?_, ((Below.refl _ _).alloc (Nat.le_refl _) _).alloc (by simp) _⟩
  have := Blok.new (W.alloc (.cells #[.bool f.n, .bool f.z, .bool f.c, .bool f.v] 66)) 66 (flgCells ⟨false, false, false, false⟩)
  rwa [show (W.alloc (.cells #[.bool f.n, .bool f.z, .bool f.c, .bool f.v] 66)).heap.size = W.heap.size + 1 by simp] at this
theorem flg_size : (Try.prog.info? 66).map (·.size) = some 4 := by kernel_rfl
def marksF (w : Int) (c v : Bool) : Flg := ⟨bt w 31, w == 0, c, v⟩
def sumW (x y : Int) (k : Bool) : Int := (x + y + if k then 1 else 0) % 4294967296
def sumF (x y : Int) (k : Bool) : Flg := marksF (sumW x y k) ((x + y + if k then 1 else 0) / 4294967296 == 1) (bits .and .u32 (bits .xor .u32 x (sumW x y k)) (bits .xor .u32 y (sumW x y k)) / 2147483648 == 1)
theorem Sum_is (x y : Int) (k : Bool) (hx : 0 ≤ x ∧ x < 4294967296) (hy : 0 ≤ y ∧ y < 4294967296) (W : World) :
    Calls Try.prog 103 #[.int .u32 x, .int .u32 y, .bool k] W fun e w' => e = .returned (.tuple #[.int .u32 (sumW x y k), .agg (flgCells (sumF x y k)).toArray]) ∧ Below W.heap.size W w' := by
  have hB : Below W.heap.size W (W.alloc (.cells #[.bool false, .bool false, .bool false, .bool false] 66)) := (Below.refl _ _).alloc (Nat.le_refl _) _
  have hZ : Blok (W.alloc (.cells #[.bool false, .bool false, .bool false, .bool false] 66)) W.heap.size 66 (flgCells ⟨false, false, false, false⟩) := Blok.new W _ _
  obtain ⟨cin, hc, hk⟩ : ∃ cin : Int, (0 ≤ cin ∧ cin < 2) ∧ cin = (if k then 1 else 0) := ⟨_, by cases k <;> simp, rfl⟩
  have A := Lib.hid (fun W => Add32_is x y cin hx hy hc W)
  have s0 : 0 ≤ sumW x y k := by unfold sumW; omega
  have s1 : sumW x y k < 4294967296 := by unfold sumW; omega
  have M := Lib.hid (fun c v W => marks_is (sumW x y k) s0 s1 c v W)
  have es : (x + y + cin) % 4294967296 = sumW x y k := by rw [hk]; rfl
  have hF : sumF x y k = marksF (sumW x y k) ((x + y + cin) / 4294967296 == 1) (bits .and .u32 (bits .xor .u32 x (sumW x y k)) (bits .xor .u32 y (sumW x y k)) / 2147483648 == 1) := by rw [hk]; rfl
  rw [hF]
  rw [es] at A
  clear hF es s0 s1 hx hy hc
  generalize sumW x y k = r at A M ⊢
  go_enter Try.func103, Try.ntmps103
  go_upto_region 1 with fail
  generalize W.alloc (.cells #[.bool false, .bool false, .bool false, .bool false] 66) = W1 at hB hZ ⊢
  have hlt := hZ.lt
  cases k
  all_goals
    simp only [Bool.false_eq_true, if_false, if_true] at hk
    subst hk
    go_wp2_with (first | (refine wpList_store_all rfl 66 (.tmp 7) (.tmp 32) rfl W.heap.size _ rfl rfl (hZ.below b2 hlt) rfl (by rw [flg_size]; rfl) rfl ?_; intro w3 B3 g3 _z) | (go_at_call 101; (with_reducible refine (M.out _ _ _).mono ?_); rintro e w2 ⟨rfl, b2⟩) | (go_at_call 104; (with_reducible refine (A.out _).mono ?_); rintro e w1 ⟨rfl, rfl⟩))
    refine ret_tc 6 7 _ 66 W.heap.size _ _ rfl rfl rfl B3.range Try.underlying66 rfl (by rw [flg_size]; rfl) rfl ⟨rfl, ?_⟩
    exact bgrow (bthen hB b2) g3 (Nat.le_refl _)
end Go.Proofs.Ytpfhplhamnohjaa
namespace Go.Proofs.Ytpfhplhamnohjaa
set_option maxHeartbeats 25600000
set_option maxRecDepth 100000
open Go.RowKit

theorem Rot_to (x k s : Int) (h : bits .and .u64 (IntKind.u64.wrap k) 31 = s) (h0 : 0 ≤ s) (h1 : s < 32) (W : World) :
    Calls Try.prog 82 #[.int .u32 x, .int .i64 k] W fun e w' => e = .returned (.int .u32 (bits .or .u32 (x * 2 ^ s.toNat % 4294967296) (x / 2 ^ (32 - s).toNat))) ∧ W = w' := by
  have e1 : (32 - s) % 18446744073709551616 = 32 - s := by omega
  go_enter Try.func82, Try.ntmps82
  go_wp2
  go_ret
  exact ⟨rfl, rfl⟩
def rotW (x k : Int) : Int := bits .or .u32 (x * 2 ^ (k % 32).toNat % 4294967296) (x / 2 ^ (32 - k % 32).toNat)
theorem wrap64u (n : Int) (h0 : 0 ≤ n) (h1 : n < 18446744073709551616) : IntKind.u64.wrap n = n := by rw [IntKind.wrap_u64]; omega
theorem wrap32u (n : Int) (h0 : 0 ≤ n) (h1 : n < 4294967296) : IntKind.u32.wrap n = n := by rw [IntKind.wrap_u32]; omega
theorem and32 (i : Nat) (hi : i ≤ 32) (v : Int) (h0 : 0 ≤ v) (h1 : v < 2 ^ 32) : bits .and .u32 v (2 ^ i - 1) = v % 2 ^ i :=
  bits_mask .u32 32 (by decide) (fun n h0 h1 => wrap32u n h0 (by simpa using h1)) i hi v h0 h1
theorem rot_mask (k : Int) : bits .and .u64 (IntKind.u64.wrap k) 31 = k % 32 := by
  have p64 : (2 : Int) ^ 64 = 18446744073709551616 := by decide
  have a0 : 0 ≤ IntKind.u64.wrap k := by rw [IntKind.wrap_u64]; omega
  have a1 : IntKind.u64.wrap k < 2 ^ 64 := by rw [IntKind.wrap_u64, p64]; omega
  have e := bits_mask .u64 64 (by decide) (fun n h0 h1 => wrap64u n h0 (by rw [p64] at h1; exact h1)) 5 (by decide) (IntKind.u64.wrap k) a0 a1
  have e2 : ((2 : Int) ^ 5 - 1) = 31 := by decide
  have e3 : ((2 : Int) ^ 5) = 32 := by decide
  rw [e2, e3] at e
  rw [e, IntKind.wrap_u64]
  omega
theorem Rot_is (x k : Int) (W : World) : Calls Try.prog 82 #[.int .u32 x, .int .i64 k] W fun e w' => e = .returned (.int .u32 (rotW x k)) ∧ W = w' :=
  Rot_to x k (k % 32) (rot_mask k) (by omega) (by omega) W
def expW (imm : Int) : Int := rotW (imm % 256) (-2 * (imm / 256 % 16))
def expC (imm : Int) (c : Bool) : Bool := if imm / 256 % 16 = 0 then c else expW imm / 2147483648 == 1
theorem Expand_is (imm : Int) (h0 : 0 ≤ imm) (h1 : imm < 4294967296) (c : Bool) (W : World) :
    Calls Try.prog 73 #[.int .u32 imm, .bool c] W fun e w' => e = .returned (.tuple #[.int .u32 (expW imm), .bool (expC imm c)]) ∧ W = w' := by
  have m1 : bits .and .u32 (imm / 256) 15 = imm / 256 % 16 := and32 4 (by decide) (imm / 256) (by omega) (by simp; omega)
  have m2 : bits .and .u32 imm 255 = imm % 256 := and32 8 (by decide) imm h0 (by simpa using h1)
  have hr : 0 ≤ imm / 256 % 16 ∧ imm / 256 % 16 < 16 := by omega
  have HE : expW imm = rotW (imm % 256) (-2 * (imm / 256 % 16)) := rfl
  have HC : expC imm c = if imm / 256 % 16 = 0 then c else expW imm / 2147483648 == 1 := rfl
  have R := Lib.hid (fun W => Rot_is (imm % 256) (-2 * (imm / 256 % 16)) W)
  rw [← HE] at R
  clear HE
  generalize expW imm = w at R HC ⊢
  generalize expC imm c = cc at HC ⊢
  generalize imm / 256 % 16 = r at m1 hr R HC
  generalize imm % 256 = lo at m2 R
  have d1 : wrap64 r = r := by unfold wrap64; omega
  have d2 : wrap64 (-2 * r) = -2 * r := by unfold wrap64; omega
  clear hr
  by_cases hz : r = 0
  · have z : (r == 0) = true := by simp [hz]
    rw [if_pos hz] at HC
    subst HC
    clear hz
    go_enter Try.func73, Try.ntmps73
    go_wp2_with (go_at_call 82; (with_reducible refine (R.out _).mono ?_); rintro e w1 ⟨rfl, rfl⟩)
    go_ret2
    exact ⟨rfl, rfl⟩
  · have z : (r == 0) = false := by simp [hz]
    rw [if_neg hz] at HC
    subst HC
    clear hz
    go_enter Try.func73, Try.ntmps73
    go_wp2_with (go_at_call 82; (with_reducible refine (R.out _).mono ?_); rintro e w1 ⟨rfl, rfl⟩)
    go_ret2
    exact ⟨rfl, rfl⟩
end Go.Proofs.Ytpfhplhamnohjaa
namespace Go.Proofs.Ytpfhplhamnohjaa
set_option maxHeartbeats 25600000
set_option maxRecDepth 100000
open Go.RowKit

def wordF (f : Flg) : Int := (if f.v then 268435456 else 0) + (if f.c then 536870912 else 0) + (if f.z then 1073741824 else 0) + (if f.n then 2147483648 else 0)
theorem Word_is (n z c v : Bool) (W : World) :
    Calls Try.prog 81 #[.agg #[.bool n, .bool z, .bool c, .bool v]] W fun e w' => e = .returned (.int .u32 (wordF ⟨n, z, c, v⟩)) ∧ Below W.heap.size W w' := by
  have hB : ∀ o, Below W.heap.size W (W.alloc o) := fun o => (Below.refl _ _).alloc (Nat.le_refl _) _
  have i0 : ∀ (a b c d : Bool) (V : World), (Instr.index 159 (.agg #[.bool a, .bool b, .bool c, .bool d]) (.int .i64 0)).run Try.prog V = .ok (.bool a) V := fun a b c d V => by kernel_rfl
  have i1 : ∀ (a b c d : Bool) (V : World), (Instr.index 159 (.agg #[.bool a, .bool b, .bool c, .bool d]) (.int .i64 1)).run Try.prog V = .ok (.bool b) V := fun a b c d V => by kernel_rfl
  have i2 : ∀ (a b c d : Bool) (V : World), (Instr.index 159 (.agg #[.bool a, .bool b, .bool c, .bool d]) (.int .i64 2)).run Try.prog V = .ok (.bool c) V := fun a b c d V => by kernel_rfl
  have i3 : ∀ (a b c d : Bool) (V : World), (Instr.index 159 (.agg #[.bool a, .bool b, .bool c, .bool d]) (.int .i64 3)).run Try.prog V = .ok (.bool d) V := fun a b c d V => by kernel_rfl
  cases n <;> cases z <;> cases c <;> cases v
  all_goals
    go_enter Try.func81, Try.ntmps81
    go_wp2
    refine wp_loop_rounds 5 ?_
    rw [rounds_succ]
    go_wp2
    rw [rounds_succ]
    go_wp2
    rw [rounds_succ]
    go_wp2
    rw [rounds_succ]
    go_wp2
    rw [rounds_succ]
    go_wp2
    go_ret
    exact ⟨rfl, hB _⟩
end Go.Proofs.Ytpfhplhamnohjaa
