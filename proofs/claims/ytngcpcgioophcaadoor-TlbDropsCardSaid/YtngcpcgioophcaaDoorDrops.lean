/- The walk of the law TlbDrops: for every block, address, ASID and offset it answers true. -/
import Derived.Test.YtngcpcgioophcaaDoorLive
import Derived.Deep.DeepCutAuto
namespace Go.Proofs.YtngcpcgioophcaaDoor
open Go.RowKit

theorem take1 (b : Blk) : takesB ⟨1, 0, 0⟩ b = rightB b := by simp [takesB, dropB]
theorem take4 (b : Blk) (va : Int) : takesB ⟨4, va, 0⟩ b = (rightB b && coversB b.va b.size va) := by simp [takesB, dropB]
theorem take2 (b : Blk) (va asid : Int) : takesB ⟨2, va, asid⟩ b = ((decide (0 ≤ asid) && decide (asid ≤ 255)) && rightB b && overB b va asid) := by simp [takesB, dropB]
theorem take3 (b : Blk) (asid : Int) : takesB ⟨3, 0, asid⟩ b = ((decide (0 ≤ asid) && decide (asid ≤ 255)) && rightB b && decide (b.asid = asid)) := by simp [takesB, dropB]
/-- what a right block's size and place are -/
theorem right_place (b : Blk) (hr : rightB b = true) : 1 ≤ b.size ∧ b.size ≤ 4 ∧ b.va % bytesOf b.size = 0 ∧ b.va < 4294967296 ∧ ((b.ng = true ∧ 0 ≤ b.asid ∧ b.asid ≤ 255) ∨ b.asid = -1) := by
  have ht : transB b = true := by unfold rightB at hr; split at hr <;> simp at hr <;> first | exact hr.1.1 | exact hr.1
  have ha : (b.ng = true ∧ 0 ≤ b.asid ∧ b.asid ≤ 255) ∨ b.asid = -1 := by
    unfold rightB at hr; split at hr <;> simp at hr
    · rename_i h; exact .inl ⟨h, hr.1.2, hr.2⟩
    · exact .inr hr.2
  simp only [transB, Bool.and_eq_true, sizedB, placeB, decide_eq_true_eq] at ht
  obtain ⟨⟨⟨⟨⟨h1, h2⟩, h3, h4⟩, _⟩, _⟩, _⟩ := ht
  refine ⟨h1, h2, ?_, by simpa [pw] using h4, ha⟩
  obtain h | h | h | h : b.size = 1 ∨ b.size = 2 ∨ b.size = 3 ∨ b.size = 4 := by omega
  all_goals (rw [h] at h3 ⊢; simpa [shiftOf, pw, bytesOf] using h3)
theorem bytes_cases (s : Int) (h1 : 1 ≤ s) (h4 : s ≤ 4) : bytesOf s = 4096 ∨ bytesOf s = 65536 ∨ bytesOf s = 1048576 ∨ bytesOf s = 16777216 := by
  obtain rfl | rfl | rfl | rfl : s = 1 ∨ s = 2 ∨ s = 3 ∨ s = 4 := by omega
  all_goals simp [bytesOf]
theorem shl_bytes (s : Int) (h1 : 1 ≤ s) (h4 : s ≤ 4) : ((2 : Int) ^ min (IntKind.u64.wrap (wrap64 (8 + wrap64 (4 * s)))).toNat 32 % 4294967296) = bytesOf s := by
  obtain rfl | rfl | rfl | rfl : s = 1 ∨ s = 2 ∨ s = 3 ∨ s = 4 := by omega
  all_goals decide +kernel
theorem cov_in (b : Blk) (hr : rightB b = true) (hv : 0 ≤ b.va) (off : Int) : coversB b.va b.size ((b.va + off % bytesOf b.size) % 4294967296) = true := by
  obtain ⟨h1, h2, h3, h4, _⟩ := right_place b hr
  unfold coversB
  rcases bytes_cases b.size h1 h2 with e | e | e | e
  all_goals (rw [e] at h3 ⊢; simp; omega)
theorem cov_above (b : Blk) (hr : rightB b = true) (_hv : 0 ≤ b.va) : coversB b.va b.size ((b.va + bytesOf b.size) % 4294967296) = false := by
  obtain ⟨h1, h2, h3, h4, _⟩ := right_place b hr
  unfold coversB
  rcases bytes_cases b.size h1 h2 with e | e | e | e
  all_goals (rw [e] at h3 ⊢; simp; omega)
theorem cov_below (b : Blk) (hr : rightB b = true) (_hv : 0 ≤ b.va) : coversB b.va b.size ((b.va - 1) % 4294967296) = false := by
  obtain ⟨h1, h2, h3, h4, _⟩ := right_place b hr
  unfold coversB
  rcases bytes_cases b.size h1 h2 with e | e | e | e
  all_goals (rw [e] at h3 ⊢; simp; omega)
set_option maxHeartbeats 12800000 in
set_option maxRecDepth 100000 in
theorem drops_no (b : Blk) (hb : b.Ok) (hr : rightB b = false) (va asid off : Int) (w : World) (hs : Shf w) :
    Calls Tryd.prog 4 #[(.agg #[.int .i64 b.asid, .int .i64 b.size, .int .u32 b.va, .int .u64 b.pa, .int .i64 b.dom, .int .i64 b.ap, .int .u32 b.bits, .bool b.ng, .bool b.xn]), .int .u32 va, .int .i64 asid, .int .u32 off] w fun e w' => e = .returned (.bool true) ∧ Below w.heap.size w w' := by
  (have c0 : ∀ w', Below (w.heap.size + 1) (w.alloc (.cells #[.int .i64 b.asid, .int .i64 b.size, .int .u32 b.va, .int .u64 b.pa, .int .i64 b.dom, .int .i64 b.ap, .int .u32 b.bits, .bool b.ng, .bool b.xn] 29)) w' → w'.cell? ⟨w.heap.size, 0, none⟩ = some (.int .i64 b.asid) := fun w' h => (h.cell (by simp)).trans (by simp); have c1 : ∀ w', Below (w.heap.size + 1) (w.alloc (.cells #[.int .i64 b.asid, .int .i64 b.size, .int .u32 b.va, .int .u64 b.pa, .int .i64 b.dom, .int .i64 b.ap, .int .u32 b.bits, .bool b.ng, .bool b.xn] 29)) w' → w'.cell? ⟨w.heap.size, 1, none⟩ = some (.int .i64 b.size) := fun w' h => (h.cell (by simp)).trans (by simp); have c2 : ∀ w', Below (w.heap.size + 1) (w.alloc (.cells #[.int .i64 b.asid, .int .i64 b.size, .int .u32 b.va, .int .u64 b.pa, .int .i64 b.dom, .int .i64 b.ap, .int .u32 b.bits, .bool b.ng, .bool b.xn] 29)) w' → w'.cell? ⟨w.heap.size, 2, none⟩ = some (.int .u32 b.va) := fun w' h => (h.cell (by simp)).trans (by simp); have c3 : ∀ w', Below (w.heap.size + 1) (w.alloc (.cells #[.int .i64 b.asid, .int .i64 b.size, .int .u32 b.va, .int .u64 b.pa, .int .i64 b.dom, .int .i64 b.ap, .int .u32 b.bits, .bool b.ng, .bool b.xn] 29)) w' → w'.cell? ⟨w.heap.size, 3, none⟩ = some (.int .u64 b.pa) := fun w' h => (h.cell (by simp)).trans (by simp); have c4 : ∀ w', Below (w.heap.size + 1) (w.alloc (.cells #[.int .i64 b.asid, .int .i64 b.size, .int .u32 b.va, .int .u64 b.pa, .int .i64 b.dom, .int .i64 b.ap, .int .u32 b.bits, .bool b.ng, .bool b.xn] 29)) w' → w'.cell? ⟨w.heap.size, 4, none⟩ = some (.int .i64 b.dom) := fun w' h => (h.cell (by simp)).trans (by simp); have c5 : ∀ w', Below (w.heap.size + 1) (w.alloc (.cells #[.int .i64 b.asid, .int .i64 b.size, .int .u32 b.va, .int .u64 b.pa, .int .i64 b.dom, .int .i64 b.ap, .int .u32 b.bits, .bool b.ng, .bool b.xn] 29)) w' → w'.cell? ⟨w.heap.size, 5, none⟩ = some (.int .i64 b.ap) := fun w' h => (h.cell (by simp)).trans (by simp); have c6 : ∀ w', Below (w.heap.size + 1) (w.alloc (.cells #[.int .i64 b.asid, .int .i64 b.size, .int .u32 b.va, .int .u64 b.pa, .int .i64 b.dom, .int .i64 b.ap, .int .u32 b.bits, .bool b.ng, .bool b.xn] 29)) w' → w'.cell? ⟨w.heap.size, 6, none⟩ = some (.int .u32 b.bits) := fun w' h => (h.cell (by simp)).trans (by simp); have c7 : ∀ w', Below (w.heap.size + 1) (w.alloc (.cells #[.int .i64 b.asid, .int .i64 b.size, .int .u32 b.va, .int .u64 b.pa, .int .i64 b.dom, .int .i64 b.ap, .int .u32 b.bits, .bool b.ng, .bool b.xn] 29)) w' → w'.cell? ⟨w.heap.size, 7, none⟩ = some (.bool b.ng) := fun w' h => (h.cell (by simp)).trans (by simp); have c8 : ∀ w', Below (w.heap.size + 1) (w.alloc (.cells #[.int .i64 b.asid, .int .i64 b.size, .int .u32 b.va, .int .u64 b.pa, .int .i64 b.dom, .int .i64 b.ap, .int .u32 b.bits, .bool b.ng, .bool b.xn] 29)) w' → w'.cell? ⟨w.heap.size, 8, none⟩ = some (.bool b.xn) := fun w' h => (h.cell (by simp)).trans (by simp))
  have hs0 := hs.alloc (.cells #[.int .i64 b.asid, .int .i64 b.size, .int .u32 b.va, .int .u64 b.pa, .int .i64 b.dom, .int .i64 b.ap, .int .u32 b.bits, .bool b.ng, .bool b.xn] 29)
  have HS := Lib.hid (show ∀ w', Below (w.heap.size + 1) (w.alloc (.cells #[.int .i64 b.asid, .int .i64 b.size, .int .u32 b.va, .int .u64 b.pa, .int .i64 b.dom, .int .i64 b.ap, .int .u32 b.bits, .bool b.ng, .bool b.xn] 29)) w' → Shf w' from fun w' h => hs0.below (by have := hs.pos; omega) h)
  have hBl : Below (w.heap.size + 1) (w.alloc (.cells #[.int .i64 b.asid, .int .i64 b.size, .int .u32 b.va, .int .u64 b.pa, .int .i64 b.dom, .int .i64 b.ap, .int .u32 b.bits, .bool b.ng, .bool b.xn] 29)) (w.alloc (.cells #[.int .i64 b.asid, .int .i64 b.size, .int .u32 b.va, .int .u64 b.pa, .int .i64 b.dom, .int .i64 b.ap, .int .u32 b.bits, .bool b.ng, .bool b.xn] 29)) := Below.refl _ _
  have T := Lib.hid (show ∀ d : Tlbi, ∀ W, Shf W → Calls Tryd.prog 22 #[(.agg #[.int .i64 d.kind, .int .u32 d.va, .int .i64 d.asid]), (.agg #[.int .i64 b.asid, .int .i64 b.size, .int .u32 b.va, .int .u64 b.pa, .int .i64 b.dom, .int .i64 b.ap, .int .u32 b.bits, .bool b.ng, .bool b.xn])] W fun e w' => e = .returned (.bool false) ∧ Below W.heap.size W w' by
    intro d W hW
    have h := tlb_Takes_is d b hb W hW
    have e : takesB d b = false := by unfold takesB; rw [hr]; simp
    rwa [e] at h)
  have dr := fun W (hW : Shf W) => tlb_Right_is b hb W hW
  rw [hr] at dr
  have DR := Lib.hid dr
  clear dr hr
  go_enter Tryd.func4, Tryd.ntmps4
  go_wp2_with (first
    | (go_at_call 17; refine (live_is _ (HS.out _ (by assumption))).mono ?_; rintro e wn ⟨rfl, hbn⟩; have hBx := bnext hBl hbn (by simp); clear hBl; have hBl := hBx; clear hBx hbn)
    | (go_at_call 22; refine (T.out ⟨_, _, _⟩ _ (HS.out _ (by assumption))).mono ?_; rintro e wn ⟨rfl, hbn⟩; have hBx := bnext hBl hbn (by simp); clear hBl; have hBl := hBx; clear hBx hbn)
    | (go_at_call 18; refine (DR.out _ (HS.out _ (by assumption))).mono ?_; rintro e wn ⟨rfl, hbn⟩; have hBx := bnext hBl hbn (by simp); clear hBl; have hBl := hBx; clear hBx hbn))
  go_ret
  exact ⟨rfl, bbox hBl⟩
set_option maxHeartbeats 12800000 in
set_option maxRecDepth 100000 in
theorem drops_yes (b : Blk) (hb : b.Ok) (hr : rightB b = true) (va asid off : Int) (hoff : 0 ≤ off) (w : World) (hs : Shf w) :
    Calls Tryd.prog 4 #[(.agg #[.int .i64 b.asid, .int .i64 b.size, .int .u32 b.va, .int .u64 b.pa, .int .i64 b.dom, .int .i64 b.ap, .int .u32 b.bits, .bool b.ng, .bool b.xn]), .int .u32 va, .int .i64 asid, .int .u32 off] w fun e w' => e = .returned (.bool true) ∧ Below w.heap.size w w' := by
  (have c0 : ∀ w', Below (w.heap.size + 1) (w.alloc (.cells #[.int .i64 b.asid, .int .i64 b.size, .int .u32 b.va, .int .u64 b.pa, .int .i64 b.dom, .int .i64 b.ap, .int .u32 b.bits, .bool b.ng, .bool b.xn] 29)) w' → w'.cell? ⟨w.heap.size, 0, none⟩ = some (.int .i64 b.asid) := fun w' h => (h.cell (by simp)).trans (by simp); have c1 : ∀ w', Below (w.heap.size + 1) (w.alloc (.cells #[.int .i64 b.asid, .int .i64 b.size, .int .u32 b.va, .int .u64 b.pa, .int .i64 b.dom, .int .i64 b.ap, .int .u32 b.bits, .bool b.ng, .bool b.xn] 29)) w' → w'.cell? ⟨w.heap.size, 1, none⟩ = some (.int .i64 b.size) := fun w' h => (h.cell (by simp)).trans (by simp); have c2 : ∀ w', Below (w.heap.size + 1) (w.alloc (.cells #[.int .i64 b.asid, .int .i64 b.size, .int .u32 b.va, .int .u64 b.pa, .int .i64 b.dom, .int .i64 b.ap, .int .u32 b.bits, .bool b.ng, .bool b.xn] 29)) w' → w'.cell? ⟨w.heap.size, 2, none⟩ = some (.int .u32 b.va) := fun w' h => (h.cell (by simp)).trans (by simp); have c3 : ∀ w', Below (w.heap.size + 1) (w.alloc (.cells #[.int .i64 b.asid, .int .i64 b.size, .int .u32 b.va, .int .u64 b.pa, .int .i64 b.dom, .int .i64 b.ap, .int .u32 b.bits, .bool b.ng, .bool b.xn] 29)) w' → w'.cell? ⟨w.heap.size, 3, none⟩ = some (.int .u64 b.pa) := fun w' h => (h.cell (by simp)).trans (by simp); have c4 : ∀ w', Below (w.heap.size + 1) (w.alloc (.cells #[.int .i64 b.asid, .int .i64 b.size, .int .u32 b.va, .int .u64 b.pa, .int .i64 b.dom, .int .i64 b.ap, .int .u32 b.bits, .bool b.ng, .bool b.xn] 29)) w' → w'.cell? ⟨w.heap.size, 4, none⟩ = some (.int .i64 b.dom) := fun w' h => (h.cell (by simp)).trans (by simp); have c5 : ∀ w', Below (w.heap.size + 1) (w.alloc (.cells #[.int .i64 b.asid, .int .i64 b.size, .int .u32 b.va, .int .u64 b.pa, .int .i64 b.dom, .int .i64 b.ap, .int .u32 b.bits, .bool b.ng, .bool b.xn] 29)) w' → w'.cell? ⟨w.heap.size, 5, none⟩ = some (.int .i64 b.ap) := fun w' h => (h.cell (by simp)).trans (by simp); have c6 : ∀ w', Below (w.heap.size + 1) (w.alloc (.cells #[.int .i64 b.asid, .int .i64 b.size, .int .u32 b.va, .int .u64 b.pa, .int .i64 b.dom, .int .i64 b.ap, .int .u32 b.bits, .bool b.ng, .bool b.xn] 29)) w' → w'.cell? ⟨w.heap.size, 6, none⟩ = some (.int .u32 b.bits) := fun w' h => (h.cell (by simp)).trans (by simp); have c7 : ∀ w', Below (w.heap.size + 1) (w.alloc (.cells #[.int .i64 b.asid, .int .i64 b.size, .int .u32 b.va, .int .u64 b.pa, .int .i64 b.dom, .int .i64 b.ap, .int .u32 b.bits, .bool b.ng, .bool b.xn] 29)) w' → w'.cell? ⟨w.heap.size, 7, none⟩ = some (.bool b.ng) := fun w' h => (h.cell (by simp)).trans (by simp); have c8 : ∀ w', Below (w.heap.size + 1) (w.alloc (.cells #[.int .i64 b.asid, .int .i64 b.size, .int .u32 b.va, .int .u64 b.pa, .int .i64 b.dom, .int .i64 b.ap, .int .u32 b.bits, .bool b.ng, .bool b.xn] 29)) w' → w'.cell? ⟨w.heap.size, 8, none⟩ = some (.bool b.xn) := fun w' h => (h.cell (by simp)).trans (by simp))
  have hs0 := hs.alloc (.cells #[.int .i64 b.asid, .int .i64 b.size, .int .u32 b.va, .int .u64 b.pa, .int .i64 b.dom, .int .i64 b.ap, .int .u32 b.bits, .bool b.ng, .bool b.xn] 29)
  have HS := Lib.hid (show ∀ w', Below (w.heap.size + 1) (w.alloc (.cells #[.int .i64 b.asid, .int .i64 b.size, .int .u32 b.va, .int .u64 b.pa, .int .i64 b.dom, .int .i64 b.ap, .int .u32 b.bits, .bool b.ng, .bool b.xn] 29)) w' → Shf w' from fun w' h => hs0.below (by have := hs.pos; omega) h)
  have hBl : Below (w.heap.size + 1) (w.alloc (.cells #[.int .i64 b.asid, .int .i64 b.size, .int .u32 b.va, .int .u64 b.pa, .int .i64 b.dom, .int .i64 b.ap, .int .u32 b.bits, .bool b.ng, .bool b.xn] 29)) (w.alloc (.cells #[.int .i64 b.asid, .int .i64 b.size, .int .u32 b.va, .int .u64 b.pa, .int .i64 b.dom, .int .i64 b.ap, .int .u32 b.bits, .bool b.ng, .bool b.xn] 29)) := Below.refl _ _
  have T : ∀ (k v a : Int) (r : Bool), takesB ⟨k, v, a⟩ b = r → Hid (∀ W, Shf W → Calls Tryd.prog 22 #[.agg #[.int .i64 k, .int .u32 v, .int .i64 a], (.agg #[.int .i64 b.asid, .int .i64 b.size, .int .u32 b.va, .int .u64 b.pa, .int .i64 b.dom, .int .i64 b.ap, .int .u32 b.bits, .bool b.ng, .bool b.xn])] W fun e w' => e = .returned (.bool r) ∧ Below W.heap.size W w') := by
    intro k v a r hr W hW
    have h := tlb_Takes_is ⟨k, v, a⟩ b hb W hW
    rwa [hr] at h
  obtain ⟨M, hM⟩ : ∃ M, takesB ⟨2, va, asid⟩ b = M := ⟨_, rfl⟩
  obtain ⟨V, hV⟩ : ∃ V, coversB b.va b.size va = V := ⟨_, rfl⟩
  obtain ⟨O, hO⟩ : ∃ O, takesB ⟨3, 0, asid⟩ b = O := ⟨_, rfl⟩
  have T2 := T 2 va asid M hM
  have T4 := T 4 va 0 V (by rw [take4, hr, hV]; rfl)
  have T3 := T 3 0 asid O hO
  have T1 := T 1 0 0 true (by rw [take1, hr])
  have hMV : M = true → V = true := by
    intro h; rw [h, take2] at hM; simp [overB, hV] at hM; exact hM.2.1.2
  have hO1 : O = true → (b.asid == -1) = false ∧ (b.asid != asid) = false := by
    intro h; rw [h, take3] at hO; simp at hO
    exact ⟨beq_eq_false_iff_ne.2 (by omega), by simp; omega⟩
  have dr := fun W (hW : Shf W) => tlb_Right_is b hb W hW
  rw [hr] at dr
  have DR := Lib.hid dr
  have HM := Lib.hid hMV
  have HO := Lib.hid hO1
  clear dr hM hO hMV hO1
  go_enter Tryd.func4, Tryd.ntmps4
  go_upto_region 7 with (first
    | (go_at_call 17; refine (live_is _ (HS.out _ (by assumption))).mono ?_; rintro e wn ⟨rfl, hbn⟩; have hBx := bnext hBl hbn (by simp); clear hBl; have hBl := hBx; clear hBx hbn)
    | (go_at_call 22; (first | (with_reducible refine (T2.out _ (HS.out _ (by assumption))).mono ?_) | (with_reducible refine (T4.out _ (HS.out _ (by assumption))).mono ?_) | (with_reducible refine (T3.out _ (HS.out _ (by assumption))).mono ?_) | (with_reducible refine (T1.out _ (HS.out _ (by assumption))).mono ?_)); rintro e wn ⟨rfl, hbn⟩; have hBx := bnext hBl hbn (by simp); clear hBl; have hBl := hBx; clear hBx hbn))
  go_cut [72] (fun v72 wc => v72 = .bool false ∧ Below (w.heap.size + 1) (w.alloc (.cells #[.int .i64 b.asid, .int .i64 b.size, .int .u32 b.va, .int .u64 b.pa, .int .i64 b.dom, .int .i64 b.ap, .int .u32 b.bits, .bool b.ng, .bool b.xn] 29)) wc)
  case first =>
    clear T1 T2 T3 T4 T
    cases O
    · cases M <;> cases V
      all_goals first | exact absurd (HM.out rfl) (by decide) | skip
      all_goals
        go_wp2_with (go_at_call 18; refine (DR.out _ (HS.out _ (by assumption))).mono ?_; rintro e wn ⟨rfl, hbn⟩; have hBx := bnext hBl hbn (by simp); clear hBl; have hBl := hBx; clear hBx hbn)
        go_meet
        case rel => exact ⟨rfl, hBl⟩
    · obtain ⟨o1, o2⟩ := HO.out rfl
      cases M <;> cases V
      all_goals first | exact absurd (HM.out rfl) (by decide) | skip
      all_goals
        go_wp2_with (go_at_call 18; refine (DR.out _ (HS.out _ (by assumption))).mono ?_; rintro e wn ⟨rfl, hbn⟩; have hBx := bnext hBl hbn (by simp); clear hBl; have hBl := hBx; clear hBx hbn)
        go_meet
        case rel => exact ⟨rfl, hBl⟩
  case rest =>
    clear hBl
    obtain ⟨rfl, hBl⟩ := hcut
    have ov := fun W (hW : Shf W) => tlb_Over_is b hb va b.asid W hW
    have e : overB b va b.asid = V := by unfold overB; rw [hr, hV]; simp
    rw [e] at ov
    have OV := Lib.hid ov
    clear ov e T1 T2 T3 T4
    go_wp2_with (go_at_call 20; refine (OV.out _ (HS.out _ (by assumption))).mono ?_; rintro e wn ⟨rfl, hbn⟩; have hBx := bnext hBl hbn (by simp); clear hBl; have hBl := hBx; clear hBx hbn)
    obtain ⟨z1, z2, z3, z4, hasid⟩ := right_place b hr
    rw [shl_bytes b.size z1 z2]
    have cin := cov_in b hr hb.va0 off
    have cab := cov_above b hr hb.va0
    have cbe := cov_below b hr hb.va0
    have hbc := bytes_cases b.size z1 z2
    clear hV T
    have T : ∀ (k v a : Int) (r : Bool), takesB ⟨k, v, a⟩ b = r → Hid (∀ W, Shf W → Calls Tryd.prog 22 #[.agg #[.int .i64 k, .int .u32 v, .int .i64 a], (.agg #[.int .i64 b.asid, .int .i64 b.size, .int .u32 b.va, .int .u64 b.pa, .int .i64 b.dom, .int .i64 b.ap, .int .u32 b.bits, .bool b.ng, .bool b.xn])] W fun e w' => e = .returned (.bool r) ∧ Below W.heap.size W w') := by
      intro k v a r hr W hW
      have h := tlb_Takes_is ⟨k, v, a⟩ b hb W hW
      rwa [hr] at h
    generalize bytesOf b.size = B at cin cab hbc ⊢
    have CI := Lib.hid cin
    have CA := Lib.hid cab
    have CB := Lib.hid cbe
    have HR := Lib.hid hr
    have g0 : 4096 ≤ B := by omega
    have g1 : B ≤ 16777216 := by omega
    have v0 := hb.va0
    have v1 := hb.va1
    have TT := Lib.hid T
    clear cin cab cbe hbc hr z1 z2 z3 z4 T
    rcases hasid with ⟨hx, p0, p1⟩ | hneg
    · clear hx
      have q1 : decide (b.asid < 0) = false := decide_eq_false (by omega)
      have q2 : (b.asid == -1) = false := beq_eq_false_iff_ne.2 (by omega)
      have q3 : (B == 0) = false := beq_eq_false_iff_ne.2 (by omega)
      go_quiet (fail)
      have hBq := bdrewN hBl nq
      clear hBl
      have hBl := hBq
      clear hBq
      go_wp2_with fail
      refine ((TT.out 2 ((b.va + off % B) % 4294967296) b.asid true (by rw [take2]; simp [overB, HR.out, CI.out]; omega)).out _ (HS.out _ hBl)).mono ?_
      rintro e wn ⟨rfl, hbn⟩
      have hBx := bnext hBl hbn (by simp)
      clear hBl
      have hBl := hBx
      clear hBx hbn
      go_wp2_with fail
      refine ((TT.out 4 ((b.va + off % B) % 4294967296) 0 true (by rw [take4]; simp [HR.out, CI.out])).out _ (HS.out _ hBl)).mono ?_
      rintro e wn ⟨rfl, hbn⟩
      have hBx := bnext hBl hbn (by simp)
      clear hBl
      have hBl := hBx
      clear hBx hbn
      go_wp2_with fail
      refine ((TT.out 4 ((b.va + B) % 4294967296) 0 false (by rw [take4]; simp [CA.out])).out _ (HS.out _ hBl)).mono ?_
      rintro e wn ⟨rfl, hbn⟩
      have hBx := bnext hBl hbn (by simp)
      clear hBl
      have hBl := hBx
      clear hBx hbn
      go_wp2_with fail
      refine ((TT.out 4 ((b.va - 1) % 4294967296) 0 false (by rw [take4]; simp [CB.out])).out _ (HS.out _ hBl)).mono ?_
      rintro e wn ⟨rfl, hbn⟩
      have hBx := bnext hBl hbn (by simp)
      clear hBl
      have hBl := hBx
      clear hBx hbn
      go_wp2_with fail
      refine ((TT.out 2 ((b.va + off % B) % 4294967296) ((b.asid + 1) % 256) false (by rw [take2]; simp [overB, HR.out, CI.out]; omega)).out _ (HS.out _ hBl)).mono ?_
      rintro e wn ⟨rfl, hbn⟩
      have hBx := bnext hBl hbn (by simp)
      clear hBl
      have hBl := hBx
      clear hBx hbn
      go_wp2
      go_ret
      exact ⟨rfl, bbox hBl⟩
    · have q1 : decide (b.asid < 0) = true := decide_eq_true (by omega)
      have q2 : (b.asid == -1) = true := beq_iff_eq.2 hneg
      have q3 : (B == 0) = false := beq_eq_false_iff_ne.2 (by omega)
      have HN := Lib.hid hneg
      clear hneg
      go_quiet (fail)
      have hBq := bdrewN hBl nq
      clear hBl
      have hBl := hBq
      clear hBq
      go_wp2_with fail
      refine ((TT.out 2 ((b.va + off % B) % 4294967296) 9 true (by rw [take2]; simp [overB, HR.out, CI.out, HN.out])).out _ (HS.out _ hBl)).mono ?_
      rintro e wn ⟨rfl, hbn⟩
      have hBx := bnext hBl hbn (by simp)
      clear hBl
      have hBl := hBx
      clear hBx hbn
      go_wp2_with fail
      refine ((TT.out 4 ((b.va + off % B) % 4294967296) 0 true (by rw [take4]; simp [HR.out, CI.out])).out _ (HS.out _ hBl)).mono ?_
      rintro e wn ⟨rfl, hbn⟩
      have hBx := bnext hBl hbn (by simp)
      clear hBl
      have hBl := hBx
      clear hBx hbn
      go_wp2_with fail
      refine ((TT.out 4 ((b.va + B) % 4294967296) 0 false (by rw [take4]; simp [CA.out])).out _ (HS.out _ hBl)).mono ?_
      rintro e wn ⟨rfl, hbn⟩
      have hBx := bnext hBl hbn (by simp)
      clear hBl
      have hBl := hBx
      clear hBx hbn
      go_wp2_with fail
      refine ((TT.out 4 ((b.va - 1) % 4294967296) 0 false (by rw [take4]; simp [CB.out])).out _ (HS.out _ hBl)).mono ?_
      rintro e wn ⟨rfl, hbn⟩
      have hBx := bnext hBl hbn (by simp)
      clear hBl
      have hBl := hBx
      clear hBx hbn
      go_wp2_with fail
      refine ((TT.out 2 ((b.va + off % B) % 4294967296) 10 true (by rw [take2]; simp [overB, HR.out, CI.out, HN.out])).out _ (HS.out _ hBl)).mono ?_
      rintro e wn ⟨rfl, hbn⟩
      have hBx := bnext hBl hbn (by simp)
      clear hBl
      have hBl := hBx
      clear hBx hbn
      go_wp2
      go_ret
      exact ⟨rfl, bbox hBl⟩
theorem drops_walk (b : Blk) (hb : b.Ok) (va asid off : Int) (hoff : 0 ≤ off) (w : World) (hs : Shf w) :
    Calls Tryd.prog 4 #[(.agg #[.int .i64 b.asid, .int .i64 b.size, .int .u32 b.va, .int .u64 b.pa, .int .i64 b.dom, .int .i64 b.ap, .int .u32 b.bits, .bool b.ng, .bool b.xn]), .int .u32 va, .int .i64 asid, .int .u32 off] w fun e w' => e = .returned (.bool true) ∧ Below w.heap.size w w' := by
  cases hr : rightB b
  · exact drops_no b hb hr va asid off w hs
  · exact drops_yes b hb hr va asid off hoff w hs
end Go.Proofs.YtngcpcgioophcaaDoor
