/- Layer 20: Bank, bank. Layer 20: the state in memory; State. Layer 20: New. -/
import Derived.Test.YtpfhplhamnohjaaG04
namespace Go.Proofs.Ytpfhplhamnohjaa
set_option maxHeartbeats 25600000
set_option maxRecDepth 100000
open Go.RowKit

def bankB (m : Int) : Int × Bool := if m = 16 ∨ m = 31 then (0, true) else if m = 19 then (1, true) else if m = 23 then (2, true) else if m = 27 then (3, true) else if m = 18 then (4, true) else (0, false)
theorem Bank_is (m : Int) (W : World) :
    Calls Try.prog 31 #[.int .i64 m] W fun e w' => e = .returned (.tuple #[.int .i64 (bankB m).1, .bool (bankB m).2]) ∧ W = w' := by
  by_cases h : m = 16 ∨ m = 31 ∨ m = 19 ∨ m = 23 ∨ m = 27 ∨ m = 18
  · rcases h with rfl | rfl | rfl | rfl | rfl | rfl
    all_goals
      go_enter Try.func31, Try.ntmps31
      go_wp2
      go_ret2
      exact ⟨rfl, rfl⟩
  have e16 : (m == 16) = false := by simp; omega
  have e31 : (m == 31) = false := by simp; omega
  have e19 : (m == 19) = false := by simp; omega
  have e23 : (m == 23) = false := by simp; omega
  have e27 : (m == 27) = false := by simp; omega
  have e18 : (m == 18) = false := by simp; omega
  have HE : bankB m = (0, false) := by
    unfold bankB
    rw [if_neg (by omega), if_neg (by omega), if_neg (by omega), if_neg (by omega), if_neg (by omega)]
  rw [HE]
  clear h HE
  go_enter Try.func31, Try.ntmps31
  go_wp2
  go_ret2
  exact ⟨rfl, rfl⟩
def bankW (c : Int) : Int := (bankB (c % 32)).1
theorem bank_is (c : Int) (h0 : 0 ≤ c) (h1 : c < 4294967296) (W : World) :
    Calls Try.prog 37 #[.int .u32 c] W fun e w' => e = .returned (.int .i64 (bankW c)) ∧ W = w' := by
  have m2 : bits .and .u32 c 31 = c % 32 := and32 5 (by decide) c h0 (by simpa using h1)
  have d1 : wrap64 (c % 32) = c % 32 := by unfold wrap64; omega
  have R := Lib.hid (fun W => Bank_is (c % 32) W)
  have HE : bankW c = (bankB (c % 32)).1 := rfl
  rw [HE]
  clear HE h0 h1
  generalize bankB (c % 32) = b at R ⊢
  generalize c % 32 = m at m2 d1 R
  go_enter Try.func37, Try.ntmps37
  go_wp2_with (go_at_call 31; (with_reducible refine (R.out _).mono ?_); rintro e w1 ⟨rfl, rfl⟩)
  go_ret
  exact ⟨rfl, rfl⟩
theorem no_is (e : Int) (W : World) : Calls Try.prog 14 #[.int .i64 e] W fun r w' => r = .returned (.int .i64 e) ∧ W = w' := by
  go_enter Try.func14, Try.ntmps14
  go_wp2
  go_ret
  exact ⟨rfl, rfl⟩
end Go.Proofs.Ytpfhplhamnohjaa
namespace Go.Proofs.Ytpfhplhamnohjaa
set_option maxHeartbeats 25600000
set_option maxRecDepth 100000
open Go.RowKit

def staCells (s : Sta) : List Value := [.int .u32 (s 0), .int .u32 (s 1), .int .u32 (s 2), .int .u32 (s 3), .int .u32 (s 4), .int .u32 (s 5), .int .u32 (s 6), .int .u32 (s 7), .int .u32 (s 8), .int .u32 (s 9), .int .u32 (s 10), .int .u32 (s 11), .int .u32 (s 12), .int .u32 (s 13), .int .u32 (s 14), .int .u32 (s 15), .int .u32 (s 16), .int .u32 (s 17), .int .u32 (s 18), .int .u32 (s 19), .int .u32 (s 20), .int .u32 (s 21), .int .u32 (s 22), .int .u32 (s 23), .int .u32 (s 24), .int .u32 (s 25), .int .u32 (s 26), .int .u32 (s 27), .int .u32 (s 28), .int .u32 (s 29)]
abbrev staA (s : Sta) : Array Value := #[.int .u32 (s 0), .int .u32 (s 1), .int .u32 (s 2), .int .u32 (s 3), .int .u32 (s 4), .int .u32 (s 5), .int .u32 (s 6), .int .u32 (s 7), .int .u32 (s 8), .int .u32 (s 9), .int .u32 (s 10), .int .u32 (s 11), .int .u32 (s 12), .int .u32 (s 13), .int .u32 (s 14), .int .u32 (s 15), .int .u32 (s 16), .int .u32 (s 17), .int .u32 (s 18), .int .u32 (s 19), .int .u32 (s 20), .int .u32 (s 21), .int .u32 (s 22), .int .u32 (s 23), .int .u32 (s 24), .int .u32 (s 25), .int .u32 (s 26), .int .u32 (s 27), .int .u32 (s 28), .int .u32 (s 29)]
theorem sta_at {w : World} {g : Nat} {t : TypeId} {s : Sta} (h : Blok w g t (staCells s)) : w.cell? ⟨g, 0, none⟩ = some (.int .u32 (s 0)) ∧ w.cell? ⟨g, 1, none⟩ = some (.int .u32 (s 1)) ∧ w.cell? ⟨g, 2, none⟩ = some (.int .u32 (s 2)) ∧ w.cell? ⟨g, 3, none⟩ = some (.int .u32 (s 3)) ∧ w.cell? ⟨g, 4, none⟩ = some (.int .u32 (s 4)) ∧ w.cell? ⟨g, 5, none⟩ = some (.int .u32 (s 5)) ∧ w.cell? ⟨g, 6, none⟩ = some (.int .u32 (s 6)) ∧ w.cell? ⟨g, 7, none⟩ = some (.int .u32 (s 7)) ∧ w.cell? ⟨g, 8, none⟩ = some (.int .u32 (s 8)) ∧ w.cell? ⟨g, 9, none⟩ = some (.int .u32 (s 9)) ∧ w.cell? ⟨g, 10, none⟩ = some (.int .u32 (s 10)) ∧ w.cell? ⟨g, 11, none⟩ = some (.int .u32 (s 11)) ∧ w.cell? ⟨g, 12, none⟩ = some (.int .u32 (s 12)) ∧ w.cell? ⟨g, 13, none⟩ = some (.int .u32 (s 13)) ∧ w.cell? ⟨g, 14, none⟩ = some (.int .u32 (s 14)) ∧ w.cell? ⟨g, 15, none⟩ = some (.int .u32 (s 15)) ∧ w.cell? ⟨g, 16, none⟩ = some (.int .u32 (s 16)) ∧ w.cell? ⟨g, 17, none⟩ = some (.int .u32 (s 17)) ∧ w.cell? ⟨g, 18, none⟩ = some (.int .u32 (s 18)) ∧ w.cell? ⟨g, 19, none⟩ = some (.int .u32 (s 19)) ∧ w.cell? ⟨g, 20, none⟩ = some (.int .u32 (s 20)) ∧ w.cell? ⟨g, 21, none⟩ = some (.int .u32 (s 21)) ∧ w.cell? ⟨g, 22, none⟩ = some (.int .u32 (s 22)) ∧ w.cell? ⟨g, 23, none⟩ = some (.int .u32 (s 23)) ∧ w.cell? ⟨g, 24, none⟩ = some (.int .u32 (s 24)) ∧ w.cell? ⟨g, 25, none⟩ = some (.int .u32 (s 25)) ∧ w.cell? ⟨g, 26, none⟩ = some (.int .u32 (s 26)) ∧ w.cell? ⟨g, 27, none⟩ = some (.int .u32 (s 27)) ∧ w.cell? ⟨g, 28, none⟩ = some (.int .u32 (s 28)) ∧ w.cell? ⟨g, 29, none⟩ = some (.int .u32 (s 29)) :=
  ⟨h.cell 0, h.cell 1, h.cell 2, h.cell 3, h.cell 4, h.cell 5, h.cell 6, h.cell 7, h.cell 8, h.cell 9, h.cell 10, h.cell 11, h.cell 12, h.cell 13, h.cell 14, h.cell 15, h.cell 16, h.cell 17, h.cell 18, h.cell 19, h.cell 20, h.cell 21, h.cell 22, h.cell 23, h.cell 24, h.cell 25, h.cell 26, h.cell 27, h.cell 28, h.cell 29⟩
def zSta : Sta := fun _ => 0
def cpuCells (s : Sta) (on : Bool) : List Value := staCells s ++ [.bool on]
theorem staCells_len (s : Sta) : (staCells s).length = 30 := rfl
theorem sta_size : (Try.prog.info? 26).map (·.size) = some 30 := by kernel_rfl
theorem staCells_one (s : Sta) : (staCells s).all (·.oneCell') = true := rfl
theorem cpu_range {w : World} {g : Nat} {t : TypeId} {s : Sta} {on : Bool} (h : Blok w g t (cpuCells s on)) : w.rangeAt g 0 (staCells s) := fun j v hv => by
  refine h.range j v ?_
  have hj : j < (staCells s).length := by
    rcases Nat.lt_or_ge j (staCells s).length with k | k
    · exact k
    · rw [List.getElem?_eq_none k] at hv; exact absurd hv (by simp)
  unfold cpuCells
  rw [List.getElem?_append_left hj]
  exact hv
theorem wpList_store_sta {ops : Array Oper} {rest : List Oper} {op : Oper} {a : Act} {w : World} {Q : Exit → Act → World → Prop} (hgd : op.guard = none) (x y : Operand) (ho : op.op = .store 26 x y)
    (g : Nat) (J K : Sta) (hx : a.eval x = .pointer (some ⟨g, 0, none⟩)) (hy : a.eval y = .agg (staCells J).toArray) (hb : Blok w g 26 (staCells K))
    (h : ∀ w1, Blok w1 g 26 (staCells J) → w.grownBy w1 (some g) → wpList Try.prog ops Q rest (a.put op.dst undef) w1) : wpList Try.prog ops Q (op :: rest) a w :=
  wpList_store_all hgd 26 x y ho g (staCells J).toArray hx hy hb (by simp [staCells_len]) (by rw [sta_size]; simp [staCells_len]) (staCells_one J) (fun w1 b1 b2 _ => h w1 b1 b2)
theorem wpList_load_sta {ops : Array Oper} {rest : List Oper} {op : Oper} {a : Act} {w : World} {Q : Exit → Act → World → Prop} (hgd : op.guard = none) (x : Operand) (ho : op.op = .load 26 x)
    (g : Nat) (J : Sta) (hx : a.eval x = .pointer (some ⟨g, 0, none⟩)) (hb : w.rangeAt g 0 (staCells J)) (h : wpList Try.prog ops Q rest (a.put op.dst (.agg (staCells J).toArray)) w) : wpList Try.prog ops Q (op :: rest) a w :=
  wpList_load_mid hgd 26 x ho g 0 hx (staCells J) _ hb Try.underlying26 rfl (by rw [sta_size, staCells_len]) h
theorem ret_sta {fn : Func} {R : Ending → World → Prop} {a : Act} {w : World} (k : Nat) (g : Nat) (J : Sta) (hr : fn.results = #[.cell k 26]) (ht : a.tmps.getD k undef = .pointer (some ⟨g, 0, none⟩))
    (hb : Blok w g 26 (staCells J)) (hdef : a.defers = []) (hR : R (.returned (.agg (staCells J).toArray)) w) : bodyPost Try.prog fn R .ret a w :=
  ret_cell k 26 g (staCells J) _ hr ht hb.range Try.underlying26 rfl (by rw [sta_size, staCells_len]) hdef hR
theorem State_is (s : Sta) (on : Bool) (g : Nat) (t : TypeId) (W : World) (h : Blok W g t (cpuCells s on)) :
    Calls Try.prog 11 #[.pointer (some ⟨g, 0, none⟩)] W fun e w' => e = .returned (.agg (staCells s).toArray) ∧ Below W.heap.size W w' := by
  have hZ : Blok (W.alloc (.cells #[.int .u32 0, .int .u32 0, .int .u32 0, .int .u32 0, .int .u32 0, .int .u32 0, .int .u32 0, .int .u32 0, .int .u32 0, .int .u32 0, .int .u32 0, .int .u32 0, .int .u32 0, .int .u32 0, .int .u32 0, .int .u32 0, .int .u32 0, .int .u32 0, .int .u32 0, .int .u32 0, .int .u32 0, .int .u32 0, .int .u32 0, .int .u32 0, .int .u32 0, .int .u32 0, .int .u32 0, .int .u32 0, .int .u32 0, .int .u32 0] 26)) W.heap.size 26 (staCells zSta) := Blok.new W _ (staCells zSta)
  have hB : Below W.heap.size W (W.alloc (.cells #[.int .u32 0, .int .u32 0, .int .u32 0, .int .u32 0, .int .u32 0, .int .u32 0, .int .u32 0, .int .u32 0, .int .u32 0, .int .u32 0, .int .u32 0, .int .u32 0, .int .u32 0, .int .u32 0, .int .u32 0, .int .u32 0, .int .u32 0, .int .u32 0, .int .u32 0, .int .u32 0, .int .u32 0, .int .u32 0, .int .u32 0, .int .u32 0, .int .u32 0, .int .u32 0, .int .u32 0, .int .u32 0, .int .u32 0, .int .u32 0] 26)) := (Below.refl _ _).alloc (Nat.le_refl _) _
  have hC := cpu_range (h.alloc (.cells #[.int .u32 0, .int .u32 0, .int .u32 0, .int .u32 0, .int .u32 0, .int .u32 0, .int .u32 0, .int .u32 0, .int .u32 0, .int .u32 0, .int .u32 0, .int .u32 0, .int .u32 0, .int .u32 0, .int .u32 0, .int .u32 0, .int .u32 0, .int .u32 0, .int .u32 0, .int .u32 0, .int .u32 0, .int .u32 0, .int .u32 0, .int .u32 0, .int .u32 0, .int .u32 0, .int .u32 0, .int .u32 0, .int .u32 0, .int .u32 0] 26))
  go_enter Try.func11, Try.ntmps11
  go_upto_region 1 with fail
  generalize W.alloc (.cells #[.int .u32 0, .int .u32 0, .int .u32 0, .int .u32 0, .int .u32 0, .int .u32 0, .int .u32 0, .int .u32 0, .int .u32 0, .int .u32 0, .int .u32 0, .int .u32 0, .int .u32 0, .int .u32 0, .int .u32 0, .int .u32 0, .int .u32 0, .int .u32 0, .int .u32 0, .int .u32 0, .int .u32 0, .int .u32 0, .int .u32 0, .int .u32 0, .int .u32 0, .int .u32 0, .int .u32 0, .int .u32 0, .int .u32 0, .int .u32 0] 26) = W1 at hZ hB hC ⊢
  go_wp2_with (first | (refine wpList_load_sta rfl (.tmp 5) rfl g s rfl hC ?_) | (refine wpList_store_sta rfl (.tmp 2) (.tmp 6) rfl W.heap.size s zSta rfl rfl hZ ?_; intro w3 B3 g3))
  refine ret_sta 2 W.heap.size s rfl rfl B3 rfl ⟨rfl, ?_⟩
  exact bgrow hB g3 (Nat.le_refl _)
end Go.Proofs.Ytpfhplhamnohjaa
namespace Go.Proofs.Ytpfhplhamnohjaa
set_option maxHeartbeats 25600000
set_option maxRecDepth 100000
open Go.RowKit

def newSta : Sta := fun i => if i = 29 then 147 else 0
theorem New_is (W : World) :
    Calls Try.prog 24 #[] W fun e w' => e = .returned (.pointer (some ⟨W.heap.size, 0, none⟩)) ∧ Blok w' W.heap.size 85 (cpuCells newSta false) ∧ Below W.heap.size W w' := by
  have hN := Blok.new W 85 (cpuCells newSta false)
  have hB : ∀ o, Below W.heap.size W (W.alloc o) := fun o => (Below.refl _ _).alloc (Nat.le_refl _) _
  go_enter Try.func24, Try.ntmps24
  go_wp2
  go_ret
  exact ⟨rfl, hN, hB _⟩
end Go.Proofs.Ytpfhplhamnohjaa
