/- The program's table of registers of layer 8 (cp15) in memory, and what Register, Get, Put and Read come to. -/
import Derived.Test.YtakihcdolpocjaaDoorCBase
namespace Go.Proofs.YtakihcdolpocjaaDoor
open Go.RowKit

theorem flatMap_at {α β : Type} (f : α → List β) (n : Nat) (hf : ∀ a, (f a).length = n) (xs : List α) : ∀ (i j : Nat) (a : α), xs[i]? = some a → j < n → (xs.flatMap f)[i * n + j]? = (f a)[j]? := by
  induction xs with
  | nil => intro i j s h; simp at h
  | cons x xs ih =>
    intro i j s h hj
    simp only [List.flatMap_cons]
    cases i with
    | zero =>
      simp at h; subst h
      rw [List.getElem?_append_left (by rw [hf]; omega)]; simp
    | succ i =>
      rw [List.getElem?_append_right (by rw [hf, Nat.succ_mul]; omega), hf]
      have e : (i + 1) * n + j - n = i * n + j := by rw [Nat.succ_mul]; omega
      rw [e]
      exact ih i j s (by simpa using h) hj
def ruleCells (k : Nat) : List Value := #[.int .i64 (tupOf k).crn, .int .i64 (tupOf k).op1, .int .i64 (tupOf k).crm, .int .i64 (tupOf k).op2, .int .u32 (keptOf k), .int .u32 (startOf k)].toList
def rulesL : List Value := (List.range 13).flatMap ruleCells
theorem rulesL_at (k j : Nat) (hk : k < 13) (hj : j < 6) : rulesL[k * 6 + j]? = (ruleCells k)[j]? :=
  flatMap_at ruleCells 6 (fun _ => rfl) _ k j k (by simp [hk]) hj
/-- the table holds what the program's text lays -/
structure Rul (w : World) : Prop where
  pos : 0 < w.heap.size
  at_ : ∀ j v, rulesL[j]? = some v → w.cell? ⟨0, j, none⟩ = some v
section
variable {w w' : World}
theorem Rul.below (h : Rul w) (hb : Below w.heap.size w w') : Rul w' := ⟨Nat.lt_of_lt_of_le h.pos hb.size, fun j v hv => (hb.cell h.pos).trans (h.at_ j v hv)⟩
theorem Rul.bel (h : Rul w) {B : Nat} (hb : Below B w w') (hB : 0 < B) : Rul w' := ⟨Nat.lt_of_lt_of_le h.pos hb.size, fun j v hv => (hb.cell hB).trans (h.at_ j v hv)⟩
theorem Rul.alloc (h : Rul w) (o : Obj) : Rul (w.alloc o) := h.below ((Below.refl _ _).alloc (Nat.le_refl _) o)
theorem Rul.drewN (h : Rul w) (n : Nat) : Rul (w.drewN n) := h.below (bdrewN (Below.refl _ _) n)
theorem Rul.gs {S : Nat → Prop} (h : Rul w) (hb : GrownS w w' S) (hn : ¬ S 0) : Rul w' := ⟨Nat.lt_of_lt_of_le h.pos hb.size, fun j v hv => (hb.cell h.pos hn).trans (h.at_ j v hv)⟩
theorem Rul.grown {r : Option Nat} (h : Rul w) (hb : w.grownBy w' r) (hn : r ≠ some 0) : Rul w' := ⟨Nat.lt_of_lt_of_le h.pos hb.size, fun j v hv => (gcell hb h.pos hn).trans (h.at_ j v hv)⟩
theorem Rul.range (h : Rul w) : w.rangeAt 0 0 rulesL := fun j v hv => by rw [Nat.zero_add]; exact h.at_ j v hv
theorem Rul.kept (h : Rul w) (k : Nat) (hk : k < 13) : w.cell? ⟨0, k * 6 + 4, none⟩ = some (.int .u32 (keptOf k)) := h.at_ _ _ (rulesL_at k 4 hk (by omega))
end
set_option maxRecDepth 100000 in
theorem index_rule (k : Nat) (hk : k < 13) (W : World) : (Instr.index 66 (.agg rulesL.toArray) (.int .i64 k)).run Tryd.prog W = .ok (.agg #[.int .i64 (tupOf k).crn, .int .i64 (tupOf k).op1, .int .i64 (tupOf k).crm, .int .i64 (tupOf k).op2, .int .u32 (keptOf k), .int .u32 (startOf k)]) W := by
  obtain rfl | rfl | rfl | rfl | rfl | rfl | rfl | rfl | rfl | rfl | rfl | rfl | rfl : k = 0 ∨ k = 1 ∨ k = 2 ∨ k = 3 ∨ k = 4 ∨ k = 5 ∨ k = 6 ∨ k = 7 ∨ k = 8 ∨ k = 9 ∨ k = 10 ∨ k = 11 ∨ k = 12 := by omega
  all_goals kernel_rfl
theorem eqIn_tup (d : Nat) (b c : Tup) (w : World) : (Op.equalIn (d + 5) 31 (.agg #[.int .i64 b.crn, .int .i64 b.op1, .int .i64 b.crm, .int .i64 b.op2]) (.agg #[.int .i64 c.crn, .int .i64 c.op1, .int .i64 c.crm, .int .i64 c.op2])).run Tryd.prog w = .ok (b.eqB c) w := by
  unfold Tup.eqB
  by_cases h0 : b.crn = c.crn
  case neg => simp [go_sem, h0]
  by_cases h1 : b.op1 = c.op1
  case neg => simp [go_sem, h0, h1]
  by_cases h2 : b.crm = c.crm
  case neg => simp [go_sem, h0, h1, h2]
  by_cases h3 : b.op2 = c.op2
  case neg => simp [go_sem, h0, h1, h2, h3]
  simp [go_sem, h0, h1, h2, h3]
theorem eql_tup (b c : Tup) (w : World) : (binOp .eql 31 (.agg #[.int .i64 b.crn, .int .i64 b.op1, .int .i64 b.crm, .int .i64 b.op2]) (.agg #[.int .i64 c.crn, .int .i64 c.op1, .int .i64 c.crm, .int .i64 c.op2])).run Tryd.prog w = .ok (.bool (b.eqB c)) w := by
  rw [run_eql_struct, eqIn_tup 9995]; rfl
/-- Register's answer -/
def regRes (t : Tup) : Value := match regOf t with | some i => .tuple #[.int .i64 i, .bool true] | none => .tuple #[.int .i64 0, .bool false]
set_option maxHeartbeats 1600000 in
theorem Register_is (t : Tup) (w : World) (hs : Rul w) : Calls Tryd.prog 15 #[(.agg #[.int .i64 t.crn, .int .i64 t.op1, .int .i64 t.crm, .int .i64 t.op2])] w fun e w' => e = .returned (regRes t) ∧ Below w.heap.size w w' := by
  have hz : 0 < w.heap.size := hs.pos
  have hrg := (hs.alloc (.cells #[.int .i64 t.crn, .int .i64 t.op1, .int .i64 t.crm, .int .i64 t.op2] 31)).range
  have hbx : Blok (w.alloc (.cells #[.int .i64 t.crn, .int .i64 t.op1, .int .i64 t.crm, .int .i64 t.op2] 31)) w.heap.size 31 #[.int .i64 t.crn, .int .i64 t.op1, .int .i64 t.crm, .int .i64 t.op2].toList := Blok.new w _ _
  go_enter Tryd.func15, Tryd.ntmps15
  go_wp2_with (refine wpList_load_mid rfl 66 (.global 0) rfl 0 0 rfl rulesL _ hrg Tryd.underlying66 rfl (by kernel_rfl) ?_)
  go_loopw [7] (fun v7 wr => ∃ k : Nat, k ≤ 13 ∧ v7 = .int .i64 k ∧ NotTo t k ∧ Below (w.heap.size + 1) (w.alloc (.cells #[.int .i64 t.crn, .int .i64 t.op1, .int .i64 t.crm, .int .i64 t.op2] 31)) wr) (fun v7 _ => 13 - (intOf v7).toNat)
  case atStart => exact ⟨0, Nat.zero_le _, rfl, notTo_zero t, Below.refl _ _⟩
  case round =>
    obtain ⟨k, hk, rfl, hn, hB⟩ := hrel
    have HN := Lib.hid hn
    have hwz := hB.size
    simp at hwz
    by_cases hlt : k < 13
    · have hix := fun W => index_rule k hlt W
      have hbr := hbx.below hB (by omega)
      (have d0 : (wr).cell? ⟨w.heap.size, 0, none⟩ = some (.int .i64 t.crn) := (hbr).cell 0; have d1 : (wr).cell? ⟨w.heap.size, 1, none⟩ = some (.int .i64 t.op1) := (hbr).cell 1; have d2 : (wr).cell? ⟨w.heap.size, 2, none⟩ = some (.int .i64 t.crm) := (hbr).cell 2; have d3 : (wr).cell? ⟨w.heap.size, 3, none⟩ = some (.int .i64 t.op2) := (hbr).cell 3)
      obtain ⟨q, hq⟩ : ∃ q, (tupOf k).eqB t = q := ⟨_, rfl⟩
      have heq := fun W => eql_tup (tupOf k) t W
      rw [hq] at heq
      have HQ := Lib.hid hq
      have hwl : w.heap.size < wr.heap.size := by omega
      clear hn hq
      cases q
      · go_wp2
        go_roundw
        case rel => exact ⟨k + 1, by omega, by go_num, notTo_next HN.out hlt HQ.out, hB.alloc (by omega) _⟩
        case measure => simp [intOf]; omega
      · go_wp2
        go_ret2
        exact ⟨by unfold regRes; rw [notTo_at HN.out hlt HQ.out]; rfl, bbox (hB.alloc (by omega) _)⟩
    · obtain rfl : k = 13 := by omega
      clear hn
      go_wp2
      go_ret2
      exact ⟨by unfold regRes; rw [notTo_end HN.out]; rfl, bbox hB⟩
end Go.Proofs.YtakihcdolpocjaaDoor
