/- The Context of layer 8 (cp15), the program's. -/
import Derived.Test.YtakihcdolpocjaaDoorCFile
import Derived.Test.YtakihcdolpocjaaDoorCBits
namespace Go.Proofs.YtakihcdolpocjaaDoor
open Go.RowKit

def RegsOk (rs : List Int) : Prop := rs.length = 13 ∧ ∀ k, k < 13 → 0 ≤ rg rs k ∧ rg rs k ≤ 4294967295
def bitB (x : Int) (i : Nat) : Bool := decide (x / 2 ^ i % 2 = 1)
theorem bit_eq (x : Int) (i : Nat) (h0 : 0 ≤ x) (h1 : x ≤ 4294967295) : (bits .and .u32 (x / 2 ^ i) 1 == 1) = bitB x i := by
  have e0 : 0 ≤ x / 2 ^ i := Int.ediv_nonneg h0 (Int.le_of_lt (Int.pow_pos (by decide)))
  have e1 : x / 2 ^ i ≤ x := Int.ediv_le_self _ h0
  rw [and_1 _ e0 (by omega), bitB]
  by_cases h : x / 2 ^ i % 2 = 1 <;> simp [h]
theorem ctx1_0_0 (p fb : Nat) (rs : List Int) (hok : RegsOk rs) (w : World) (hp : w.cell? ⟨p, 0, none⟩ = some (.pointer (some ⟨fb, 0, none⟩))) (h : IsFile w 63 fb rs) :
    Calls Tryd.prog 30 #[.int .i64 0, .int .i64 0, .pointer (some ⟨p, 0, none⟩)] w fun e w' => e = .returned (.bool (bitB (rg rs 0) 0)) ∧ w' = w := by
  have c := h.cell 0 (by omega)
  obtain ⟨x0, x1⟩ := hok.2 0 (by omega)
  have be := bit_eq _ 0 x0 x1
  have BE := Lib.hid be
  clear be hok
  go_enter Tryd.func30, Tryd.ntmps30
  go_wp2
  go_ret
  exact ⟨by rw [← BE.out]; first | rfl | simp, rfl⟩
theorem ctx1_0_28 (p fb : Nat) (rs : List Int) (hok : RegsOk rs) (w : World) (hp : w.cell? ⟨p, 0, none⟩ = some (.pointer (some ⟨fb, 0, none⟩))) (h : IsFile w 63 fb rs) :
    Calls Tryd.prog 30 #[.int .i64 0, .int .i64 28, .pointer (some ⟨p, 0, none⟩)] w fun e w' => e = .returned (.bool (bitB (rg rs 0) 28)) ∧ w' = w := by
  have c := h.cell 0 (by omega)
  obtain ⟨x0, x1⟩ := hok.2 0 (by omega)
  have be := bit_eq _ 28 x0 x1
  have BE := Lib.hid be
  clear be hok
  go_enter Tryd.func30, Tryd.ntmps30
  go_wp2
  go_ret
  exact ⟨by rw [← BE.out]; first | rfl | simp, rfl⟩
theorem ctx1_0_29 (p fb : Nat) (rs : List Int) (hok : RegsOk rs) (w : World) (hp : w.cell? ⟨p, 0, none⟩ = some (.pointer (some ⟨fb, 0, none⟩))) (h : IsFile w 63 fb rs) :
    Calls Tryd.prog 30 #[.int .i64 0, .int .i64 29, .pointer (some ⟨p, 0, none⟩)] w fun e w' => e = .returned (.bool (bitB (rg rs 0) 29)) ∧ w' = w := by
  have c := h.cell 0 (by omega)
  obtain ⟨x0, x1⟩ := hok.2 0 (by omega)
  have be := bit_eq _ 29 x0 x1
  have BE := Lib.hid be
  clear be hok
  go_enter Tryd.func30, Tryd.ntmps30
  go_wp2
  go_ret
  exact ⟨by rw [← BE.out]; first | rfl | simp, rfl⟩
theorem ctx1_3_4 (p fb : Nat) (rs : List Int) (hok : RegsOk rs) (w : World) (hp : w.cell? ⟨p, 0, none⟩ = some (.pointer (some ⟨fb, 0, none⟩))) (h : IsFile w 63 fb rs) :
    Calls Tryd.prog 30 #[.int .i64 3, .int .i64 4, .pointer (some ⟨p, 0, none⟩)] w fun e w' => e = .returned (.bool (bitB (rg rs 3) 4)) ∧ w' = w := by
  have c := h.cell 3 (by omega)
  obtain ⟨x0, x1⟩ := hok.2 3 (by omega)
  have be := bit_eq _ 4 x0 x1
  have BE := Lib.hid be
  clear be hok
  go_enter Tryd.func30, Tryd.ntmps30
  go_wp2
  go_ret
  exact ⟨by rw [← BE.out]; first | rfl | simp, rfl⟩
theorem ctx1_3_5 (p fb : Nat) (rs : List Int) (hok : RegsOk rs) (w : World) (hp : w.cell? ⟨p, 0, none⟩ = some (.pointer (some ⟨fb, 0, none⟩))) (h : IsFile w 63 fb rs) :
    Calls Tryd.prog 30 #[.int .i64 3, .int .i64 5, .pointer (some ⟨p, 0, none⟩)] w fun e w' => e = .returned (.bool (bitB (rg rs 3) 5)) ∧ w' = w := by
  have c := h.cell 3 (by omega)
  obtain ⟨x0, x1⟩ := hok.2 3 (by omega)
  have be := bit_eq _ 5 x0 x1
  have BE := Lib.hid be
  clear be hok
  go_enter Tryd.func30, Tryd.ntmps30
  go_wp2
  go_ret
  exact ⟨by rw [← BE.out]; first | rfl | simp, rfl⟩
def base0 (x n : Int) : Int := x / 2 ^ (14 - n).toNat * 2 ^ (14 - n).toNat
/-- the cells of the Context -/
def ctxA (rs : List Int) : Array Value := #[.bool (bitB (rg rs 0) 0), .bool (bitB (rg rs 0) 28), .bool (bitB (rg rs 0) 29), .int .i64 (rg rs 3 % 8), .bool (bitB (rg rs 3) 4), .bool (bitB (rg rs 3) 5), .int .u64 (base0 (rg rs 1) (rg rs 3 % 8)), .int .u64 (rg rs 2), .int .u32 (rg rs 4), .int .u32 (rg rs 10), .int .u32 (rg rs 11), .int .i64 (rg rs 12 % 256)]
def zctxA : Array Value := #[.bool false, .bool false, .bool false, .int .i64 0, .bool false, .bool false, .int .u64 0, .int .u64 0, .int .u32 0, .int .u32 0, .int .u32 0, .int .i64 0]
theorem base0_andNot (x : Int) (k : Nat) (hk : k ≤ 32) (n : Int) (hn : (14 - n).toNat = k) (h0 : 0 ≤ x) (h1 : x ≤ 4294967295) (m : Int) (hm : m = ((2 ^ k - 1 : Nat) : Int)) : bits .andNot .u32 x m = base0 x n := by
  obtain ⟨a, rfl⟩ := Int.eq_ofNat_of_zero_le h0
  rw [hm, andNot_hi k hk a (by omega), base0, hn]
  simp
theorem base0_le (x n : Int) (h0 : 0 ≤ x) : 0 ≤ base0 x n ∧ base0 x n ≤ x := by
  unfold base0
  have hp : (0 : Int) < 2 ^ (14 - n).toNat := Int.pow_pos (by decide)
  exact ⟨Int.mul_nonneg (Int.ediv_nonneg h0 (Int.le_of_lt hp)) (Int.le_of_lt hp), Int.ediv_mul_le _ (by omega)⟩
theorem base0_wrap (x n : Int) (h0 : 0 ≤ x) (h1 : x ≤ 4294967295) : IntKind.u64.wrap (base0 x n) = base0 x n := by
  have := base0_le x n h0
  rw [IntKind.wrap_u64]; omega
theorem wrapk (x : Int) (h0 : 0 ≤ x) (h1 : x ≤ 1000) : IntKind.i64.wrap x = x := by simp [IntKind.wrap, IntKind.signed, IntKind.bits]; omega
theorem shl_one (n : Int) (h0 : 0 ≤ n) (h7 : n ≤ 7) : ((2 : Int) ^ (14 - n).toNat % 4294967296 - 1) % 4294967296 = ((2 ^ (14 - n).toNat - 1 : Nat) : Int) := by
  obtain rfl | rfl | rfl | rfl | rfl | rfl | rfl | rfl : n = 0 ∨ n = 1 ∨ n = 2 ∨ n = 3 ∨ n = 4 ∨ n = 5 ∨ n = 6 ∨ n = 7 := by omega
  all_goals decide
set_option maxHeartbeats 6400000 in
set_option maxRecDepth 100000 in
theorem Context_is (fb : Nat) (rs : List Int) (hok : RegsOk rs) (w : World) (h : IsFile w 63 fb rs) :
    Calls Tryd.prog 22 #[.pointer (some ⟨fb, 0, none⟩)] w fun e w' => e = .returned (.agg (ctxA rs)) ∧ Below w.heap.size w w' := by
  obtain ⟨n, hn⟩ : ∃ n, rg rs 3 % 8 = n := ⟨_, rfl⟩
  have q1 := hok.2 1 (by omega)
  have q3 := hok.2 3 (by omega)
  have q2 := hok.2 2 (by omega)
  have q12 := hok.2 12 (by omega)
  have n0 : 0 ≤ n := by omega
  have n7 : n ≤ 7 := by omega
  have m0 : 0 ≤ 14 - n := by omega
  have m1 : 14 - n ≤ 32 := by omega
  have e3 : wrap64 (bits .and .u32 (rg rs 3) 7) = n := by rw [and_7 _ q3.1 q3.2]; rw [hn]; unfold wrap64; omega
  have e12 : wrap64 (bits .and .u32 (rg rs 12) 255) = rg rs 12 % 256 := by rw [and_255 _ q12.1 q12.2]; exact (by unfold wrap64; omega)
  have e1 : IntKind.u64.wrap (bits .andNot .u32 (rg rs 1) (((2 : Int) ^ (14 - n).toNat % 4294967296 - 1) % 4294967296)) = base0 (rg rs 1) n := by rw [shl_one n n0 n7, base0_andNot _ (14 - n).toNat (by omega) n rfl q1.1 q1.2 _ rfl]; exact base0_wrap _ _ q1.1 q1.2
  have E1 := Lib.hid e1
  have HB := Lib.hid (fun W hp hF => ctx1_0_0 w.heap.size fb rs hok W hp hF)
  have HB1 := Lib.hid (fun W hp hF => ctx1_0_28 w.heap.size fb rs hok W hp hF)
  have HB2 := Lib.hid (fun W hp hF => ctx1_0_29 w.heap.size fb rs hok W hp hF)
  have HB3 := Lib.hid (fun W hp hF => ctx1_3_4 w.heap.size fb rs hok W hp hF)
  have HB4 := Lib.hid (fun W hp hF => ctx1_3_5 w.heap.size fb rs hok W hp hF)
  have HN := Lib.hid hn
  have E12 := Lib.hid e12
  have w1 := wrapk (14 - n) (by omega) (by omega)
  have h0 := ((h.alloc (.cells #[.pointer (some ⟨fb, 0, none⟩)] 23)).alloc (.cells zctxA 59)).drew
  have p0 : ((w.alloc (.cells #[.pointer (some ⟨fb, 0, none⟩)] 23)).alloc (.cells zctxA 59)).drew.cell? ⟨w.heap.size, 0, none⟩ = some (.pointer (some ⟨fb, 0, none⟩)) := (((Blok.new w 23 [.pointer (some ⟨fb, 0, none⟩)]).alloc (.cells zctxA 59)).drewN 1).cell 0
  have c1 := h.cell 1 (by omega)
  have c2 := h.cell 2 (by omega)
  have c3 := h.cell 3 (by omega)
  have c4 := h.cell 4 (by omega)
  have c10 := h.cell 10 (by omega)
  have c11 := h.cell 11 (by omega)
  have c12 := h.cell 12 (by omega)
  have hl := h.b.lt
  clear hn hok q1 q3 q12 e12 e1
  go_enter Tryd.func22, Tryd.ntmps22
  go_wp2_with fail
  (refine wp_region_tail 51 (by kernel_rfl) (by kernel_rfl) ?_; simp only [List.take_succ_cons, List.take_zero, List.drop_succ_cons, List.drop_zero]; (repeat still_step); (try refine wpStill_nil ?_))
  still_call (HB.out _ p0 h0)
  repeat still_step
  still_call (HB1.out _ p0 h0)
  repeat still_step
  still_call (HB2.out _ p0 h0)
  repeat still_step
  still_call (HB3.out _ p0 h0)
  repeat still_step
  still_call (HB4.out _ p0 h0)
  repeat still_step
  refine wpStill_nil ?_
  go_wp2
  refine bodyPost_ret (v := .agg #[.bool (bitB (rg rs 0) 0), .bool (bitB (rg rs 0) 28), .bool (bitB (rg rs 0) 29), .int .i64 n, .bool (bitB (rg rs 3) 4), .bool (bitB (rg rs 3) 5), .int .u64 (IntKind.u64.wrap (bits .andNot .u32 (rg rs 1) (((2 : Int) ^ (14 - n).toNat % 4294967296 - 1) % 4294967296))), .int .u64 (rg rs 2), .int .u32 (rg rs 4), .int .u32 (rg rs 10), .int .u32 (rg rs 11), .int .i64 (wrap64 (bits .and .u32 (rg rs 12) 255))]) (by simp [results, Tryd.results22, go_sem]) rfl ⟨?_, bdrew (((Below.refl _ _).alloc (Nat.le_refl _) _).alloc (by simp) _)⟩
  rw [E1.out, E12.out]
  unfold ctxA
  rw [HN.out]
end Go.Proofs.YtakihcdolpocjaaDoor
