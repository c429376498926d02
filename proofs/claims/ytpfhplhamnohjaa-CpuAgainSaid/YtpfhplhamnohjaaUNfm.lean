/- Layer 20: the line's Access. -/
import Derived.Test.YtpfhplhamnohjaaG15
import Derived.Test.YtpfhplhamnohjaaG10
namespace Go.Proofs.Ytpfhplhamnohjaa
set_option maxHeartbeats 25600000
set_option maxRecDepth 100000
open Go.RowKit

set_option linter.unusedSimpArgs false

theorem ans_size : (Try.prog.info? 90).map (·.size) = some 4 := by kernel_rfl
theorem acc_size : (Try.prog.info? 50).map (·.size) = some 5 := by kernel_rfl
def accC (kind va n v : Int) (p : Bool) : List Value := [.int .i64 kind, .int .u32 va, .int .i64 n, .int .u32 v, .bool p]
theorem accC_lit (kind va n v : Int) (p : Bool) : (accC kind va n v p).toArray = #[.int .i64 kind, .int .u32 va, .int .i64 n, .int .u32 v, .bool p] := rfl
theorem Blok.at_ {w w' : World} {g : Nat} {t : TypeId} {cs : List Value} (h : Blok w g t cs) (e : w'.heap[g]? = w.heap[g]?) : Blok w' g t cs := e.trans h
theorem Access_is (g : Nat) (m : LineM) (O : Nat → Prop) (kind va n v : Int) (p : Bool) (hva : 0 ≤ va ∧ va < 4294967296) (hn : n = 1 ∨ n = 2 ∨ n = 4) (hf : 0 < m.room) (w : World) (h : IsLine g m O w) :
    Calls Try.prog 120 #[.pointer (some ⟨g, 0, none⟩), .agg #[.int .i64 kind, .int .u32 va, .int .i64 n, .int .u32 v, .bool p]] w
      (BusPost (IsLine g) O w (accLine m kind va n v p).1 (.agg (ansCells (accLine m kind va n v p).2).toArray)) := by
  have hA : Blok ((w.alloc (.cells #[.int .i64 kind, .int .u32 va, .int .i64 n, .int .u32 v, .bool p] 50)).alloc (.cells #[.int .u32 0, .int .i64 0, .int .i64 0, .int .i64 0] 90)) w.heap.size 50 (accC kind va n v p) := (Blok.new w _ (accC kind va n v p)).alloc _
  have hZ : Blok ((w.alloc (.cells #[.int .i64 kind, .int .u32 va, .int .i64 n, .int .u32 v, .bool p] 50)).alloc (.cells #[.int .u32 0, .int .i64 0, .int .i64 0, .int .i64 0] 90)) (w.heap.size + 1) 90 (ansCells ⟨0, 0, 0, 0⟩) := by
    have := Blok.new (w.alloc (.cells #[.int .i64 kind, .int .u32 va, .int .i64 n, .int .u32 v, .bool p] 50)) 90 (ansCells ⟨0, 0, 0, 0⟩)
    rwa [show (w.alloc (.cells #[.int .i64 kind, .int .u32 va, .int .i64 n, .int .u32 v, .bool p] 50)).heap.size = w.heap.size + 1 by simp] at this
  have hB : Below w.heap.size w ((w.alloc (.cells #[.int .i64 kind, .int .u32 va, .int .i64 n, .int .u32 v, .bool p] 50)).alloc (.cells #[.int .u32 0, .int .i64 0, .int .i64 0, .int .i64 0] 90)) := ((Below.refl _ _).alloc (Nat.le_refl _) _).alloc (by simp) _
  have hsz : ((w.alloc (.cells #[.int .i64 kind, .int .u32 va, .int .i64 n, .int .u32 v, .bool p] 50)).alloc (.cells #[.int .u32 0, .int .i64 0, .int .i64 0, .int .i64 0] 90)).heap.size = w.heap.size + 1 + 1 := by simp
  obtain ⟨R, hR⟩ : ∃ R, R = accLine m kind va n v p := ⟨_, rfl⟩
  rw [← hR]
  have HR := Lib.hid hR
  clear hR
  obtain ⟨vp0, vh0, va0, hb, na, row, ASK⟩ := line_ask h hf ⟨kind, va, n, v, p, 0, 0, 0, 0, 0, 0, false⟩ m.cop h.ok.cop
  have ASK := Lib.hid ASK
  have hask := h.ok.asks
  have hgl := hb.lt
  have hb' := hb.below hB hgl
  have row' := row.same (w' := ((w.alloc (.cells #[.int .i64 kind, .int .u32 va, .int .i64 n, .int .u32 v, .bool p] 50)).alloc (.cells #[.int .u32 0, .int .i64 0, .int .i64 0, .int .i64 0] 90))) (fun j q => hB.block j (row.lt j q))
  go_enter Try.func120, Try.ntmps120
  go_upto_region 1 with fail
  generalize (w.alloc (.cells #[.int .i64 kind, .int .u32 va, .int .i64 n, .int .u32 v, .bool p] 50)).alloc (.cells #[.int .u32 0, .int .i64 0, .int .i64 0, .int .i64 0] 90) = W1 at hA hZ hB hsz hb' row' ⊢
  generalize Value.agg #[.int .i64 kind, .int .u32 va, .int .i64 n, .int .u32 v, .bool p] = vv
  have a0 : W1.cell? ⟨w.heap.size, 0, none⟩ = some (.int .i64 kind) := hA.cell 0
  have a1 : W1.cell? ⟨w.heap.size, 1, none⟩ = some (.int .u32 va) := hA.cell 1
  have a2 : W1.cell? ⟨w.heap.size, 2, none⟩ = some (.int .i64 n) := hA.cell 2
  have a3 : W1.cell? ⟨w.heap.size, 3, none⟩ = some (.int .u32 v) := hA.cell 3
  have a4 : W1.cell? ⟨w.heap.size, 4, none⟩ = some (.bool p) := hA.cell 4
  have t2 : W1.cell? ⟨g, 2, none⟩ = some va0 := hb'.cell 2
  have hq : Blok ((W1.alloc (.cells (askC ⟨kind, va, n, v, p, 0, 0, 0, 0, 0, 0, false⟩).toArray 54)).drew) (w.heap.size + 1 + 1) 54 (askC ⟨kind, va, n, v, p, 0, 0, 0, 0, 0, 0, false⟩) := by
    have := (Blok.new W1 54 (askC ⟨kind, va, n, v, p, 0, 0, 0, 0, 0, 0, false⟩)).drewN 1
    rwa [hsz] at this
  have hS1 : GrownS W1 ((W1.alloc (.cells (askC ⟨kind, va, n, v, p, 0, 0, 0, 0, 0, 0, false⟩).toArray 54)).drew) (fun j => va0.ownBlock = some j) := ((GrownS.refl _ _).alloc _).trans (GrownS.drew _ _)
  have b2 : Below w.heap.size w ((W1.alloc (.cells (askC ⟨kind, va, n, v, p, 0, 0, 0, 0, 0, 0, false⟩).toArray 54)).drew) := bdrew (hB.alloc hB.size _)
  have s2 : ((W1.alloc (.cells (askC ⟨kind, va, n, v, p, 0, 0, 0, 0, 0, 0, false⟩).toArray 54)).drew).heap.size = w.heap.size + 1 + 1 + 1 := by
    show (W1.alloc _).heap.size = _
    rw [← hsz]; simp
  have hb2 : Blok ((W1.alloc (.cells (askC ⟨kind, va, n, v, p, 0, 0, 0, 0, 0, 0, false⟩).toArray 54)).drew) g _ _ := (hb'.alloc _).drewN 1
  have hA2 : Blok ((W1.alloc (.cells (askC ⟨kind, va, n, v, p, 0, 0, 0, 0, 0, 0, false⟩).toArray 54)).drew) w.heap.size _ _ := (hA.alloc _).drewN 1
  have hZ2 : Blok ((W1.alloc (.cells (askC ⟨kind, va, n, v, p, 0, 0, 0, 0, 0, 0, false⟩).toArray 54)).drew) (w.heap.size + 1) _ _ := (hZ.alloc _).drewN 1
  have row2 : IsRow askC 12 54 ((W1.alloc (.cells (askC ⟨kind, va, n, v, p, 0, 0, 0, 0, 0, 0, false⟩).toArray 54)).drew) va0 m.asked := row'.same (fun j q => Below.heap_alloc W1 _ j (row'.lt j q))
  have f0 : ∀ w', GrownS W1 w' (fun j => va0.ownBlock = some j) → w'.cell? ⟨g, 2, none⟩ = some va0 := fun w' k => (hb'.gs k na).cell 2
  have na2 : va0.ownBlock ≠ some w.heap.size := fun e => Nat.lt_irrefl _ (row.lt _ e)
  have y0 : ∀ w', GrownS W1 w' (fun j => va0.ownBlock = some j) → w'.cell? ⟨w.heap.size, 0, none⟩ = some (.int .i64 kind) := fun w' k => (hA.gs k na2).cell 0
  have y1 : ∀ w', GrownS W1 w' (fun j => va0.ownBlock = some j) → w'.cell? ⟨w.heap.size, 1, none⟩ = some (.int .u32 va) := fun w' k => (hA.gs k na2).cell 1
  have y2 : ∀ w', GrownS W1 w' (fun j => va0.ownBlock = some j) → w'.cell? ⟨w.heap.size, 2, none⟩ = some (.int .i64 n) := fun w' k => (hA.gs k na2).cell 2
  have y3 : ∀ w', GrownS W1 w' (fun j => va0.ownBlock = some j) → w'.cell? ⟨w.heap.size, 3, none⟩ = some (.int .u32 v) := fun w' k => (hA.gs k na2).cell 3
  have y4 : ∀ w', GrownS W1 w' (fun j => va0.ownBlock = some j) → w'.cell? ⟨w.heap.size, 4, none⟩ = some (.bool p) := fun w' k => (hA.gs k na2).cell 4
  have hS0 : GrownS W1 W1.drew (fun j => va0.ownBlock = some j) := GrownS.drew _ _
  (refine hwalk_start (S := (fun w' => GrownS W1 w' (fun j => va0.ownBlock = some j))) 9 (by kernel_rfl) (by kernel_rfl) (by kernel_rfl) (by kernel_rfl) (by kernel_rfl) ?_; simp only [List.size_toArray, List.length_cons, List.length_nil, Nat.reduceAdd, Nat.reduceSub, Array.replicate_succ, Array.replicate_zero, List.push_toArray, List.nil_append, List.cons_append])
  (refine hwalk_take (i := 0) (d := some 10) (v := ?_) rfl (by rfl) (by kernel_rfl) (by kernel_rfl) (by kernel_rfl) (fun _ _ _ h => h) (Or.inl ⟨by rfl, ?_⟩) (by with_reducible assumption) ?_; rotate_left 1; (· ((intro w hSw); (try dsimp only at hSw); first | (go_simp; done) | (go_simp; with_reducible rfl))); (try simp only [Act.put, List.setIfInBounds_toArray, List.set_cons_zero, List.set_cons_succ]))
  (refine hwalk_take (i := 1) (d := some 11) (v := ?_) rfl (by rfl) (by kernel_rfl) (by kernel_rfl) (by kernel_rfl) (fun _ _ _ h => h) (Or.inl ⟨by rfl, ?_⟩) (by with_reducible assumption) ?_; rotate_left 1; (· ((intro w hSw); (try dsimp only at hSw); first | (go_simp; done) | (go_simp; with_reducible rfl))); (try simp only [Act.put, List.setIfInBounds_toArray, List.set_cons_zero, List.set_cons_succ]))
  (refine hwalk_take (i := 2) (d := some 12) (v := ?_) rfl (by rfl) (by kernel_rfl) (by kernel_rfl) (by kernel_rfl) (fun _ _ _ h => h) (Or.inl ⟨by rfl, ?_⟩) (by with_reducible assumption) ?_; rotate_left 1; (· ((intro w hSw); (try dsimp only at hSw); first | (go_simp; done) | (go_simp; with_reducible rfl))); (try simp only [Act.put, List.setIfInBounds_toArray, List.set_cons_zero, List.set_cons_succ]))
  (refine hwalk_take (i := 3) (d := some 13) (v := ?_) rfl (by rfl) (by kernel_rfl) (by kernel_rfl) (by kernel_rfl) (fun _ _ _ h => h) (Or.inl ⟨by rfl, ?_⟩) (by with_reducible assumption) ?_; rotate_left 1; (· ((intro w hSw); (try dsimp only at hSw); first | (go_simp; done) | (go_simp; with_reducible rfl))); (try simp only [Act.put, List.setIfInBounds_toArray, List.set_cons_zero, List.set_cons_succ]))
  (refine hwalk_take (i := 4) (d := some 14) (v := ?_) rfl (by rfl) (by kernel_rfl) (by kernel_rfl) (by kernel_rfl) (fun _ _ _ h => h) (Or.inl ⟨by rfl, ?_⟩) (by with_reducible assumption) ?_; rotate_left 1; (· ((intro w hSw); (try dsimp only at hSw); first | (go_simp; done) | (go_simp; with_reducible rfl))); (try simp only [Act.put, List.setIfInBounds_toArray, List.set_cons_zero, List.set_cons_succ]))
  (refine hwalk_take (i := 5) (d := some 15) (v := ?_) rfl (by rfl) (by kernel_rfl) (by kernel_rfl) (by kernel_rfl) (fun _ _ _ h => h) (Or.inl ⟨by rfl, ?_⟩) (by with_reducible assumption) ?_; rotate_left 1; (· ((intro w hSw); (try dsimp only at hSw); first | (go_simp; done) | (go_simp; with_reducible rfl))); (try simp only [Act.put, List.setIfInBounds_toArray, List.set_cons_zero, List.set_cons_succ]))
  (refine hwalk_take (i := 6) (d := some 16) (v := ?_) rfl (by rfl) (by kernel_rfl) (by kernel_rfl) (by kernel_rfl) (fun _ _ _ h => h) (Or.inl ⟨by rfl, ?_⟩) (by with_reducible assumption) ?_; rotate_left 1; (· ((intro w hSw); (try dsimp only at hSw); first | (go_simp; done) | (go_simp; with_reducible rfl))); (try simp only [Act.put, List.setIfInBounds_toArray, List.set_cons_zero, List.set_cons_succ]))
  refine hwalk_one (i := 7) rfl (by kernel_rfl) (by kernel_rfl) rfl (fun K hK => ?_)
  go_simp
  refine hK _ _ hS1 ?_
  clear hK K
  (try simp only [Act.put, List.setIfInBounds_toArray, List.set_cons_zero, List.set_cons_succ])
  change HWalk _ _ _ _ _ _ _ _ _ ((W1.alloc (.cells (askC ⟨kind, va, n, v, p, 0, 0, 0, 0, 0, 0, false⟩).toArray 54)).drew)
  generalize (W1.alloc (.cells (askC ⟨kind, va, n, v, p, 0, 0, 0, 0, 0, 0, false⟩).toArray 54)).drew = W2 at hq hS1 b2 s2 hb2 hA2 hZ2 row2 ⊢
  refine hwalk_one (i := 8) rfl (by kernel_rfl) (by kernel_rfl) rfl (fun K hK => ?_)
  refine wp_append_el askC_len (by omega) ask_info rfl askC_one 46 Try.underlying46 (.tmp 14) (.tmp 17) rfl va0 m.asked rfl row2 ⟨kind, va, n, v, p, 0, 0, 0, 0, 0, 0, false⟩ (w.heap.size + 1 + 1) 54 rfl hq (by unfold maxLen; omega) (by omega) ?_
  intro g' cap w3 row3 gr3 hat3
  refine hK _ _ (hS1.trans ((gsOwn gr3))) ?_
  clear hK K
  have hb3 := hb2.grown gr3 (fun e => na e.symm)
  have t3 : w3.cell? ⟨g, 2, none⟩ = some va0 := hb3.cell 2
  have f3 := hb3.frozen 2
  refine hwalk_done (by kernel_rfl) ?_
  simp only [Act.put, List.setIfInBounds_toArray, List.set_cons_zero, List.set_cons_succ, List.drop_succ_cons, List.drop_zero]
  obtain ⟨O1, hI4, G4, k4, e4⟩ := ASK.out _ w3 _ g' cap b2 row3 gr3 hat3 (Or.inl ⟨rfl, rfl⟩)
  have hA4 := hA2.at_ (e4 _ (Nat.le_refl _) (by omega))
  have hZ4 := hZ2.at_ (e4 _ (by omega) (by omega))
  go_upto_region 2 with fail
  rw [s2] at k4
  have nA : ¬ O1 w.heap.size := fun q => (k4 _ q).elim (fun q => Nat.lt_irrefl _ (h.old _ q)) (fun l => by omega)
  have nZ : ¬ O1 (w.heap.size + 1) := fun q => (k4 _ q).elim (fun q => by have := h.old _ q; omega) (fun l => by omega)
  have k4' : ∀ j, O1 j → O j ∨ w.heap.size ≤ j := fun j q => (k4 j q).imp id (fun l => by omega)
  have k5 : ∀ j, O1 j → O j ∨ w.heap.size ≤ j := k4'
  have HR1 := Lib.hid (show R = if (faultI m.holes kind va n).2.ok = false then ({ m with holes := (faultI m.holes kind va n).1, asked := m.asked ++ [⟨kind, va, n, v, p, 0, 0, 0, 0, 0, 0, false⟩], room := m.room - 1 }, (faultI m.holes kind va n).2)
    else if kind = 3 then ({ m with puts := m.puts ++ [(va - va % 4, storedI (wordI m.puts (va - va % 4)) va n v)], holes := (faultI m.holes kind va n).1, asked := m.asked ++ [⟨kind, va, n, v, p, 0, 0, 0, 0, 0, 0, false⟩], room := m.room - 1 }, ⟨0, 0, 0, 0⟩)
    else ({ m with holes := (faultI m.holes kind va n).1, asked := m.asked ++ [⟨kind, va, n, v, p, 0, 0, 0, 0, 0, 0, false⟩], room := m.room - 1 }, ⟨loadedI (wordI m.puts (va - va % 4)) va n, 0, 0, 0⟩) from HR.out)
  have FT := Lib.hid (fault_is g _ O1 kind va n v p hva hn _ hI4)
  clear HR ASK hq hS0 hS1 b2 s2 hb2 hA2 hZ2 row2 e4 k4 t3 f3 hb3 row3 gr3 hat3 f0 na2 y0 y1 y2 y3 y4 a0 a1 a2 a3 a4 t2 hA hZ hB hsz hb' row' row hI4
  generalize w3.setCell ⟨g, 2, none⟩ (.slice (some ⟨g', 0, none⟩) (m.asked.length + 1) cap) = w4 at G4 hA4 hZ4 FT ⊢
  dsimp only at FT
  have xv := faultI_val m.holes kind va n
  generalize faultI m.holes kind va n = fr at HR1 FT xv
  obtain ⟨hs', x⟩ := fr
  dsimp only at HR1 FT xv
  have a0 : w4.cell? ⟨w.heap.size, 0, none⟩ = some (.int .i64 kind) := hA4.cell 0
  have a1 : w4.cell? ⟨w.heap.size, 1, none⟩ = some (.int .u32 va) := hA4.cell 1
  have a2 : w4.cell? ⟨w.heap.size, 2, none⟩ = some (.int .i64 n) := hA4.cell 2
  have a3 : w4.cell? ⟨w.heap.size, 3, none⟩ = some (.int .u32 v) := hA4.cell 3
  have a4 : w4.cell? ⟨w.heap.size, 4, none⟩ = some (.bool p) := hA4.cell 4
  go_cut [33] (fun s33 wx => s33 = .bool false ∧ wx = w4)
  case first =>
    rcases hn with rfl | rfl | rfl
    · go_wp2_with fail
      go_meet
      exact ⟨rfl, rfl⟩
    · go_wp2_with fail
      go_meet
      exact ⟨rfl, rfl⟩
    · go_wp2_with fail
      go_meet
      exact ⟨rfl, rfl⟩
  case rest =>
    obtain ⟨rfl, rfl⟩ := hcut
    go_upto_region 5 with (first | (refine wpList_store_all rfl 36 (.tmp 5) (.tmp 38) rfl w5.heap.size (fltC x).toArray rfl rfl hF5 rfl (by rw [fault_size]; rfl) rfl ?_; intro w6 B6 g6 _z6) | (go_at_call 123; (with_reducible refine (FT.out).mono ?_); rintro e w5 ⟨rfl, hI5, G5⟩; have hF5 := Blok.new w5 36 (fltC ⟨0, 0, 0, 0⟩)))
    have b56 : Below w5.heap.size w5 w6 := bgrow ((Below.refl _ _).alloc (Nat.le_refl _) _) g6 (Nat.le_refl _)
    have hI6 := hI5.keep (GrownS.ofBelow (S := fun _ => False) b56) (fun _ _ q => q)
    have hA5 := hA4.gs G5 nA
    have hA6 := hA5.below b56 hA5.lt
    have hZ5 := hZ4.gs G5 nZ
    have hZ6 := hZ5.below b56 hZ5.lt
    have G6 : GrownS w w6 O := (grownS_chain G4 G5 k4').below b56
    have q0 : w6.cell? ⟨w5.heap.size, 0, none⟩ = some (.int .i64 x.fk) := B6.cell 0
    have q1 : w6.cell? ⟨w5.heap.size, 1, none⟩ = some (.int .i64 x.fl) := B6.cell 1
    have q2 : w6.cell? ⟨w5.heap.size, 2, none⟩ = some (.int .i64 x.fd) := B6.cell 2
    have nB : w5.heap.size ≠ w.heap.size + 1 := fun e => by have := hZ5.lt; omega
    have l5 : w.heap.size ≤ w5.heap.size := by have := hA5.lt; omega
    clear hA5 hZ5 b56 hI5 g6 B6 G5 G4 hA4 hZ4 a0 a1 a2 a3 a4 hF5 FT k4'
    generalize w5.heap.size = fb at q0 q1 q2 nB l5 ⊢
    (try simp only [Act.put])
    have a0 : w6.cell? ⟨w.heap.size, 0, none⟩ = some (.int .i64 kind) := hA6.cell 0
    have a1 : w6.cell? ⟨w.heap.size, 1, none⟩ = some (.int .u32 va) := hA6.cell 1
    have a2 : w6.cell? ⟨w.heap.size, 2, none⟩ = some (.int .i64 n) := hA6.cell 2
    have a3 : w6.cell? ⟨w.heap.size, 3, none⟩ = some (.int .u32 v) := hA6.cell 3
    go_cut [41] (fun s41 wx => s41 = .bool (!x.ok) ∧ wx = w6)
    case first =>
      by_cases f0 : x.fk = 0
      · by_cases f1 : x.fl = 0
        · by_cases f2 : x.fd = 0
          · go_wp2_with fail
            go_meet
            exact ⟨by simp [Ans.ok, f0, f1, f2], rfl⟩
          · go_wp2_with fail
            go_meet
            exact ⟨by simp [Ans.ok, f2], rfl⟩
        · go_wp2_with fail
          go_meet
          exact ⟨by simp [Ans.ok, f1], rfl⟩
      · go_wp2_with fail
        go_meet
        exact ⟨by simp [Ans.ok, f0], rfl⟩
    case rest =>
      obtain ⟨rfl, rfl⟩ := hcut
      obtain ⟨good, hx⟩ : ∃ good, x.ok = good := ⟨_, rfl⟩
      have HX := Lib.hid hx
      rw [hx]
      clear hx
      cases good
      · have e1 := HR1.out
        rw [if_pos HX.out] at e1
        have HF := Lib.hid e1
        clear e1 HR1 HX a0 a1 a2 a3
        go_wp2_with (refine wpList_store_all rfl 90 (.tmp 4) (.tmp 43) rfl (w.heap.size + 1) (ansCells ⟨0, x.fk, x.fl, x.fd⟩).toArray rfl rfl hZ6 rfl (by rw [ans_size]; rfl) rfl ?_; intro w8 B8 g8 _z8)
        refine ret_cell 4 90 (w.heap.size + 1) (ansCells ⟨0, x.fk, x.fl, x.fd⟩) _ rfl rfl B8.range Try.underlying90 rfl (by rw [ans_size]; rfl) rfl ?_
        rw [HF.out]
        have ev : x = ⟨0, x.fk, x.fl, x.fd⟩ := by cases x; simp only at xv; subst xv; rfl
        refine ⟨by rw [← ev], O1, hI6.keep (GrownS.ofOne (S := fun j => j = w.heap.size + 1) g8 rfl) (fun j q e => nZ (e ▸ q)), G6.new g8 (by omega), k5⟩
      · have e1 := HR1.out
        rw [if_neg (by rw [HX.out]; simp)] at e1
        have HF := Lib.hid e1
        clear e1 HR1 HX q0 q1 q2
        have tm : va.tmod 4 = va % 4 := Int.tmod_eq_emod_of_nonneg hva.1
        have hmd : (va - va % 4) % 4294967296 = va - va % 4 := by omega
        have hm8 : 8 * (va % 4) % 4294967296 = 8 * (va % 4) := by omega
        have mku : 0 ≤ lmask n ∧ lmask n < 4294967296 := by unfold lmask; (repeat' split) <;> omega
        go_upto_region 9 with fail
        go_cut [8] (fun s8 wx => s8 = .int .u32 (lmask n) ∧ wx = wc)
        case first =>
          rcases hn with rfl | rfl | rfl
          · go_wp2_with fail
            go_meet
            exact ⟨by simp [lmask], rfl⟩
          · go_wp2_with fail
            go_meet
            exact ⟨by simp [lmask], rfl⟩
          · go_wp2_with fail
            go_meet
            exact ⟨by simp [lmask], rfl⟩
        case rest =>
          obtain ⟨rfl, rfl⟩ := hcut
          go_upto_if 62 with fail
          go_cut [8] (fun s8 wx => s8 = .int .u32 (lmask n) ∧ wx = wc)
          case first =>
            rcases hn with rfl | rfl | rfl
            · go_wp2_with fail
              go_meet
              exact ⟨by simp [lmask], rfl⟩
            · go_wp2_with fail
              go_meet
              exact ⟨by simp [lmask], rfl⟩
            · go_wp2_with fail
              go_meet
              exact ⟨by simp [lmask], rfl⟩
          case rest =>
            obtain ⟨rfl, rfl⟩ := hcut
            have WD := Lib.hid (LineWord_is g _ O1 (va - va % 4) _ hI6)
            dsimp only at WD
            obtain ⟨pw, hpw⟩ : ∃ pw, pw8 (va % 4) = pw := ⟨_, rfl⟩
            have hsp : (8 * (va % 4) = 0 ∧ pw = 1) ∨ (8 * (va % 4) = 8 ∧ pw = 256) ∨ (8 * (va % 4) = 16 ∧ pw = 65536) ∨ (8 * (va % 4) = 24 ∧ pw = 16777216) := by
              rcases (show va % 4 = 0 ∨ va % 4 = 1 ∨ va % 4 = 2 ∨ va % 4 = 3 by omega) with h | h | h | h <;> (rw [h] at hpw ⊢; simp [pw8] at hpw; omega)
            have e1 := HF.out
            unfold storedI loadedI at e1
            rw [hpw] at e1
            have atu : 0 ≤ va - va % 4 ∧ va - va % 4 < 4294967296 := by omega
            clear hpw HF tm hmd hm8 hn
            generalize lmask n = mk at e1 mku ⊢
            generalize wordI m.puts (va - va % 4) = wd at e1 WD
            generalize va - va % 4 = at6 at e1 WD atu ⊢
            generalize 8 * (va % 4) = sh at hsp ⊢
            have HF := Lib.hid e1
            clear e1
            go_upto_region 13 with (go_at_call 17; (with_reducible refine (WD.out).mono ?_); rintro e w7 ⟨rfl, b7⟩)
            have hA7 := hA6.below b7 hA6.lt
            have hZ7 := hZ6.below b7 hZ6.lt
            have hI7 := hI6.keep (GrownS.ofBelow (S := fun _ => False) b7) (fun _ _ q => q)
            have G7 := G6.below b7
            have l7 := b7.size
            clear a0 a1 a2 a3 hA6 hZ6 hI6 G6 WD b7
            have a0 : w7.cell? ⟨w.heap.size, 0, none⟩ = some (.int .i64 kind) := hA7.cell 0
            by_cases k3 : kind = 3
            · have e1 := HF.out
              rw [if_pos k3] at e1
              have HE := Lib.hid e1
              rw [k3] at a0
              clear e1 HF k3
              go_upto_region 14 with fail
              rcases hsp with ⟨rfl, rfl⟩ | ⟨rfl, rfl⟩ | ⟨rfl, rfl⟩ | ⟨rfl, rfl⟩
              · have e0 := HE.out
                have ew : ∀ x : Int, x % 4294967296 = IntKind.u32.wrap x := fun _ => rfl
                rw [Int.mul_one, Int.mul_one, ew mk, ew (bits .and .u32 v mk)] at e0
                clear HE
                have HE := Lib.hid e0
                clear e0
                have ST := bits32 .or (bits .andNot .u32 wd (IntKind.u32.wrap mk)) (IntKind.u32.wrap (bits .and .u32 v mk))
                obtain ⟨vp1, vh1, va1, hb7, np1, row7, PUT⟩ := line_put hI7 (by have := h.ok.putn; dsimp only; omega) (at6, bits .or .u32 (bits .andNot .u32 wd (IntKind.u32.wrap mk)) (IntKind.u32.wrap (bits .and .u32 v mk))) ⟨atu, ST⟩
                have PUT := Lib.hid PUT
                clear ST
                have np2 : vp1.ownBlock ≠ some w.heap.size := fun e => nA (by
                  obtain ⟨a1, a2, a3, b1, _, _, _, c1, _⟩ := hI7.ex
                  have e1 : vp1 = a1 := Option.some.inj ((hb7.cell 0).symm.trans (b1.cell 0))
                  exact (c1 _).2 (Or.inr (Or.inl (e1 ▸ e))))
                have f0 : ∀ w', GrownS w7 w' (fun j => vp1.ownBlock = some j) → w'.cell? ⟨g, 0, none⟩ = some vp1 := fun w' k => (hb7.gs k np1).cell 0
                have y3 : ∀ w', GrownS w7 w' (fun j => vp1.ownBlock = some j) → w'.cell? ⟨w.heap.size, 3, none⟩ = some (.int .u32 v) := fun w' k => (hA7.gs k np2).cell 3
                have hS0 : GrownS w7 w7.drew (fun j => vp1.ownBlock = some j) := GrownS.drew _ _
                have b8 : Below w7.heap.size w7 ((w7.alloc (.cells (putC (at6, bits .or .u32 (bits .andNot .u32 wd (IntKind.u32.wrap mk)) (IntKind.u32.wrap (bits .and .u32 v mk)))).toArray 69)).drew) := bdrew ((Below.refl _ _).alloc (Nat.le_refl _) _)
                have hq : Blok ((w7.alloc (.cells (putC (at6, bits .or .u32 (bits .andNot .u32 wd (IntKind.u32.wrap mk)) (IntKind.u32.wrap (bits .and .u32 v mk)))).toArray 69)).drew) w7.heap.size 69 (putC (at6, bits .or .u32 (bits .andNot .u32 wd (IntKind.u32.wrap mk)) (IntKind.u32.wrap (bits .and .u32 v mk)))) := (Blok.new w7 _ (putC _)).drewN 1
                have hS1 : GrownS w7 ((w7.alloc (.cells (putC (at6, bits .or .u32 (bits .andNot .u32 wd (IntKind.u32.wrap mk)) (IntKind.u32.wrap (bits .and .u32 v mk)))).toArray 69)).drew) (fun j => vp1.ownBlock = some j) := GrownS.ofBelow b8
                (refine hwalk_start (S := (fun w' => GrownS w7 w' (fun j => vp1.ownBlock = some j))) 21 (by kernel_rfl) (by kernel_rfl) (by kernel_rfl) (by kernel_rfl) (by kernel_rfl) ?_; simp only [List.size_toArray, List.length_cons, List.length_nil, Nat.reduceAdd, Nat.reduceSub, Array.replicate_succ, Array.replicate_zero, List.push_toArray, List.nil_append, List.cons_append])
                (refine hwalk_take (i := 0) (d := some 69) (v := ?_) rfl (by rfl) (by kernel_rfl) (by kernel_rfl) (by kernel_rfl) (fun _ _ _ h => h) (Or.inl ⟨by rfl, ?_⟩) (by with_reducible assumption) ?_; rotate_left 1; (· ((intro w hSw); (try dsimp only at hSw); first | (go_simp; done) | (go_simp; with_reducible rfl))); (try simp only [Act.put, List.setIfInBounds_toArray, List.set_cons_zero, List.set_cons_succ]))
                (refine hwalk_take (i := 1) (d := some 70) (v := ?_) rfl (by rfl) (by kernel_rfl) (by kernel_rfl) (by kernel_rfl) (fun _ _ _ h => h) (Or.inl ⟨by rfl, ?_⟩) (by with_reducible assumption) ?_; rotate_left 1; (· ((intro w hSw); (try dsimp only at hSw); first | (go_simp; done) | (go_simp; with_reducible rfl))); (try simp only [Act.put, List.setIfInBounds_toArray, List.set_cons_zero, List.set_cons_succ]))
                (refine hwalk_take (i := 2) (d := some 71) (v := ?_) rfl (by rfl) (by kernel_rfl) (by kernel_rfl) (by kernel_rfl) (fun _ _ _ h => h) (Or.inl ⟨by rfl, ?_⟩) (by with_reducible assumption) ?_; rotate_left 1; (· ((intro w hSw); (try dsimp only at hSw); first | (go_simp; done) | (go_simp; with_reducible rfl))); (try simp only [Act.put, List.setIfInBounds_toArray, List.set_cons_zero, List.set_cons_succ]))
                (refine hwalk_take (i := 3) (d := some 72) (v := ?_) rfl (by rfl) (by kernel_rfl) (by kernel_rfl) (by kernel_rfl) (fun _ _ _ h => h) (Or.inl ⟨by rfl, ?_⟩) (by with_reducible assumption) ?_; rotate_left 1; (· ((intro w hSw); (try dsimp only at hSw); first | (go_simp; done) | (go_simp; with_reducible rfl))); (try simp only [Act.put, List.setIfInBounds_toArray, List.set_cons_zero, List.set_cons_succ]))
                (refine hwalk_take (i := 4) (d := some 73) (v := ?_) rfl (by rfl) (by kernel_rfl) (by kernel_rfl) (by kernel_rfl) (fun _ _ _ h => h) (Or.inl ⟨by rfl, ?_⟩) (by with_reducible assumption) ?_; rotate_left 1; (· ((intro w hSw); (try dsimp only at hSw); first | (go_simp; done) | (go_simp; with_reducible rfl))); (try simp only [Act.put, List.setIfInBounds_toArray, List.set_cons_zero, List.set_cons_succ]))
                (refine hwalk_take (i := 5) (d := some 74) (v := ?_) rfl (by rfl) (by kernel_rfl) (by kernel_rfl) (by kernel_rfl) (fun _ _ _ h => h) (Or.inl ⟨by rfl, ?_⟩) (by with_reducible assumption) ?_; rotate_left 1; (· ((intro w hSw); (try dsimp only at hSw); first | (go_simp; done) | (go_simp; with_reducible rfl))); (try simp only [Act.put, List.setIfInBounds_toArray, List.set_cons_zero, List.set_cons_succ]))
                (refine hwalk_take (i := 6) (d := some 75) (v := ?_) rfl (by rfl) (by kernel_rfl) (by kernel_rfl) (by kernel_rfl) (fun _ _ _ h => h) (Or.inl ⟨by rfl, ?_⟩) (by with_reducible assumption) ?_; rotate_left 1; (· ((intro w hSw); (try dsimp only at hSw); first | (go_simp; done) | (go_simp; with_reducible rfl))); (try simp only [Act.put, List.setIfInBounds_toArray, List.set_cons_zero, List.set_cons_succ]))
                (refine hwalk_take (i := 7) (d := some 76) (v := ?_) rfl (by rfl) (by kernel_rfl) (by kernel_rfl) (by kernel_rfl) (fun _ _ _ h => h) (Or.inl ⟨by rfl, ?_⟩) (by with_reducible assumption) ?_; rotate_left 1; (· ((intro w hSw); (try dsimp only at hSw); first | (go_simp; done) | (go_simp; with_reducible rfl))); (try simp only [Act.put, List.setIfInBounds_toArray, List.set_cons_zero, List.set_cons_succ]))
                (refine hwalk_take (i := 8) (d := some 77) (v := ?_) rfl (by rfl) (by kernel_rfl) (by kernel_rfl) (by kernel_rfl) (fun _ _ _ h => h) (Or.inl ⟨by rfl, ?_⟩) (by with_reducible assumption) ?_; rotate_left 1; (· ((intro w hSw); (try dsimp only at hSw); first | (go_simp; done) | (go_simp; with_reducible rfl))); (try simp only [Act.put, List.setIfInBounds_toArray, List.set_cons_zero, List.set_cons_succ]))
                (refine hwalk_take (i := 9) (d := some 78) (v := ?_) rfl (by rfl) (by kernel_rfl) (by kernel_rfl) (by kernel_rfl) (fun _ _ _ h => h) (Or.inl ⟨by rfl, ?_⟩) (by with_reducible assumption) ?_; rotate_left 1; (· ((intro w hSw); (try dsimp only at hSw); first | (go_simp; done) | (go_simp; with_reducible rfl))); (try simp only [Act.put, List.setIfInBounds_toArray, List.set_cons_zero, List.set_cons_succ]))
                (refine hwalk_take (i := 10) (d := some 79) (v := ?_) rfl (by rfl) (by kernel_rfl) (by kernel_rfl) (by kernel_rfl) (fun _ _ _ h => h) (Or.inl ⟨by rfl, ?_⟩) (by with_reducible assumption) ?_; rotate_left 1; (· ((intro w hSw); (try dsimp only at hSw); first | (go_simp; done) | (go_simp; with_reducible rfl))); (try simp only [Act.put, List.setIfInBounds_toArray, List.set_cons_zero, List.set_cons_succ]))
                (refine hwalk_take (i := 11) (d := some 80) (v := ?_) rfl (by rfl) (by kernel_rfl) (by kernel_rfl) (by kernel_rfl) (fun _ _ _ h => h) (Or.inl ⟨by rfl, ?_⟩) (by with_reducible assumption) ?_; rotate_left 1; (· ((intro w hSw); (try dsimp only at hSw); first | (go_simp; done) | (go_simp; with_reducible rfl))); (try simp only [Act.put, List.setIfInBounds_toArray, List.set_cons_zero, List.set_cons_succ]))
                (refine hwalk_take (i := 12) (d := some 81) (v := ?_) rfl (by rfl) (by kernel_rfl) (by kernel_rfl) (by kernel_rfl) (fun _ _ _ h => h) (Or.inl ⟨by rfl, ?_⟩) (by with_reducible assumption) ?_; rotate_left 1; (· ((intro w hSw); (try dsimp only at hSw); first | (go_simp; done) | (go_simp; with_reducible rfl))); (try simp only [Act.put, List.setIfInBounds_toArray, List.set_cons_zero, List.set_cons_succ]))
                (refine hwalk_take (i := 13) (d := some 82) (v := ?_) rfl (by rfl) (by kernel_rfl) (by kernel_rfl) (by kernel_rfl) (fun _ _ _ h => h) (Or.inl ⟨by rfl, ?_⟩) (by with_reducible assumption) ?_; rotate_left 1; (· ((intro w hSw); (try dsimp only at hSw); first | (go_simp; done) | (go_simp; with_reducible rfl))); (try simp only [Act.put, List.setIfInBounds_toArray, List.set_cons_zero, List.set_cons_succ]))
                (refine hwalk_take (i := 14) (d := some 83) (v := ?_) rfl (by rfl) (by kernel_rfl) (by kernel_rfl) (by kernel_rfl) (fun _ _ _ h => h) (Or.inl ⟨by rfl, ?_⟩) (by with_reducible assumption) ?_; rotate_left 1; (· ((intro w hSw); (try dsimp only at hSw); first | (go_simp; done) | (go_simp; with_reducible rfl))); (try simp only [Act.put, List.setIfInBounds_toArray, List.set_cons_zero, List.set_cons_succ]))
                (refine hwalk_take (i := 15) (d := some 84) (v := ?_) rfl (by rfl) (by kernel_rfl) (by kernel_rfl) (by kernel_rfl) (fun _ _ _ h => h) (Or.inl ⟨by rfl, ?_⟩) (by with_reducible assumption) ?_; rotate_left 1; (· ((intro w hSw); (try dsimp only at hSw); first | (go_simp; done) | (go_simp; with_reducible rfl))); (try simp only [Act.put, List.setIfInBounds_toArray, List.set_cons_zero, List.set_cons_succ]))
                (refine hwalk_take (i := 16) (d := some 85) (v := ?_) rfl (by rfl) (by kernel_rfl) (by kernel_rfl) (by kernel_rfl) (fun _ _ _ h => h) (Or.inl ⟨by rfl, ?_⟩) (by with_reducible assumption) ?_; rotate_left 1; (· ((intro w hSw); (try dsimp only at hSw); first | (go_simp; done) | (go_simp; with_reducible rfl))); (try simp only [Act.put, List.setIfInBounds_toArray, List.set_cons_zero, List.set_cons_succ]))
                (refine hwalk_take (i := 17) (d := some 86) (v := ?_) rfl (by rfl) (by kernel_rfl) (by kernel_rfl) (by kernel_rfl) (fun _ _ _ h => h) (Or.inl ⟨by rfl, ?_⟩) (by with_reducible assumption) ?_; rotate_left 1; (· ((intro w hSw); (try dsimp only at hSw); first | (go_simp; done) | (go_simp; with_reducible rfl))); (try simp only [Act.put, List.setIfInBounds_toArray, List.set_cons_zero, List.set_cons_succ]))
                (refine hwalk_take (i := 18) (d := some 87) (v := ?_) rfl (by rfl) (by kernel_rfl) (by kernel_rfl) (by kernel_rfl) (fun _ _ _ h => h) (Or.inl ⟨by rfl, ?_⟩) (by with_reducible assumption) ?_; rotate_left 1; (· ((intro w hSw); (try dsimp only at hSw); first | (go_simp; done) | (go_simp; with_reducible rfl))); (try simp only [Act.put, List.setIfInBounds_toArray, List.set_cons_zero, List.set_cons_succ]))
                refine hwalk_one (i := 19) rfl (by kernel_rfl) (by kernel_rfl) rfl (fun K hK => ?_)
                go_simp
                refine hK _ _ hS1 ?_
                clear hK K
                (try simp only [Act.put, List.setIfInBounds_toArray, List.set_cons_zero, List.set_cons_succ])
                change HWalk _ _ _ _ _ _ _ _ _ ((w7.alloc (.cells (putC (at6, bits .or .u32 (bits .andNot .u32 wd (IntKind.u32.wrap mk)) (IntKind.u32.wrap (bits .and .u32 v mk)))).toArray 69)).drew)
                generalize (w7.alloc (.cells (putC (at6, bits .or .u32 (bits .andNot .u32 wd (IntKind.u32.wrap mk)) (IntKind.u32.wrap (bits .and .u32 v mk)))).toArray 69)).drew = W8 at hq hS1 b8 ⊢
                refine hwalk_one (i := 20) rfl (by kernel_rfl) (by kernel_rfl) rfl (fun K hK => ?_)
                refine wp_append_el putC_len (by omega) put_info rfl putC_one 27 Try.underlying27 (.tmp 73) (.tmp 88) rfl vp1 m.puts rfl (row7.same (fun j q => b8.block j (row7.lt j q))) (at6, bits .or .u32 (bits .andNot .u32 wd (IntKind.u32.wrap mk)) (IntKind.u32.wrap (bits .and .u32 v mk))) w7.heap.size 69 rfl hq (by have := h.ok.putn; unfold maxLen; omega) (by have := h.ok.putn; omega) ?_
                intro g2 cap2 w9 row9 gr9 hat9
                refine hK _ _ (hS1.trans (gsOwn gr9)) ?_
                clear hK K
                have hb9 := (hb7.below b8 hb7.lt).grown gr9 (fun e => np1 e.symm)
                have t9 : w9.cell? ⟨g, 0, none⟩ = some vp1 := hb9.cell 0
                have f9 := hb9.frozen 0
                refine hwalk_done (by kernel_rfl) ?_
                simp only [Act.put, List.setIfInBounds_toArray, List.set_cons_zero, List.set_cons_succ, List.drop_succ_cons, List.drop_zero]
                obtain ⟨O2, hI9, G9, k9, e9⟩ := PUT.out _ w9 _ g2 cap2 b8 row9 gr9 hat9 rfl
                have hZ9 := hZ7.gs G9 nZ
                clear f0 y3 hS0 hS1 a0
                go_upto_region 15 with fail
                clear t9 f9 hb9 row9 hq row7 hb7
                generalize w9.setCell ⟨g, 0, none⟩ (.slice (some ⟨g2, 0, none⟩) (m.puts.length + 1) cap2) = wA at hI9 G9 e9 hZ9 ⊢
                go_wp2_with (refine wpList_store_all rfl 90 (.tmp 4) (.tmp 92) rfl (w.heap.size + 1) (ansCells ⟨0, 0, 0, 0⟩).toArray rfl rfl hZ9 rfl (by rw [ans_size]; rfl) rfl ?_; intro w8 B8 g8 _z8)
                refine ret_cell 4 90 (w.heap.size + 1) (ansCells ⟨0, 0, 0, 0⟩) _ rfl rfl B8.range Try.underlying90 rfl (by rw [ans_size]; rfl) rfl ?_
                rw [HE.out]
                have nZ2 : ¬ O2 (w.heap.size + 1) := fun q => (k9 _ q).elim nZ (fun l => by have := hZ7.lt; have := b8.size; omega)
                have k9' : ∀ j, O2 j → O j ∨ w.heap.size ≤ j := fun j q => (k9 j q).elim (k5 j) (fun l => Or.inr (by have := b8.size; have := hZ7.lt; omega))
                exact ⟨rfl, O2, hI9.keep (GrownS.ofOne (S := fun j => j = w.heap.size + 1) g8 rfl) (fun j q e => nZ2 (e ▸ q)), (grownS_chain G7 G9 k5).new g8 (by omega), k9'⟩
              · have ST := bits32 .or (bits .andNot .u32 wd (mk * 256 % 4294967296)) (bits .and .u32 v mk * 256 % 4294967296)
                obtain ⟨vp1, vh1, va1, hb7, np1, row7, PUT⟩ := line_put hI7 (by have := h.ok.putn; dsimp only; omega) (at6, bits .or .u32 (bits .andNot .u32 wd (mk * 256 % 4294967296)) (bits .and .u32 v mk * 256 % 4294967296)) ⟨atu, ST⟩
                have PUT := Lib.hid PUT
                clear ST
                have np2 : vp1.ownBlock ≠ some w.heap.size := fun e => nA (by
                  obtain ⟨a1, a2, a3, b1, _, _, _, c1, _⟩ := hI7.ex
                  have e1 : vp1 = a1 := Option.some.inj ((hb7.cell 0).symm.trans (b1.cell 0))
                  exact (c1 _).2 (Or.inr (Or.inl (e1 ▸ e))))
                have f0 : ∀ w', GrownS w7 w' (fun j => vp1.ownBlock = some j) → w'.cell? ⟨g, 0, none⟩ = some vp1 := fun w' k => (hb7.gs k np1).cell 0
                have y3 : ∀ w', GrownS w7 w' (fun j => vp1.ownBlock = some j) → w'.cell? ⟨w.heap.size, 3, none⟩ = some (.int .u32 v) := fun w' k => (hA7.gs k np2).cell 3
                have hS0 : GrownS w7 w7.drew (fun j => vp1.ownBlock = some j) := GrownS.drew _ _
                have b8 : Below w7.heap.size w7 ((w7.alloc (.cells (putC (at6, bits .or .u32 (bits .andNot .u32 wd (mk * 256 % 4294967296)) (bits .and .u32 v mk * 256 % 4294967296))).toArray 69)).drew) := bdrew ((Below.refl _ _).alloc (Nat.le_refl _) _)
                have hq : Blok ((w7.alloc (.cells (putC (at6, bits .or .u32 (bits .andNot .u32 wd (mk * 256 % 4294967296)) (bits .and .u32 v mk * 256 % 4294967296))).toArray 69)).drew) w7.heap.size 69 (putC (at6, bits .or .u32 (bits .andNot .u32 wd (mk * 256 % 4294967296)) (bits .and .u32 v mk * 256 % 4294967296))) := (Blok.new w7 _ (putC _)).drewN 1
                have hS1 : GrownS w7 ((w7.alloc (.cells (putC (at6, bits .or .u32 (bits .andNot .u32 wd (mk * 256 % 4294967296)) (bits .and .u32 v mk * 256 % 4294967296))).toArray 69)).drew) (fun j => vp1.ownBlock = some j) := GrownS.ofBelow b8
                (refine hwalk_start (S := (fun w' => GrownS w7 w' (fun j => vp1.ownBlock = some j))) 21 (by kernel_rfl) (by kernel_rfl) (by kernel_rfl) (by kernel_rfl) (by kernel_rfl) ?_; simp only [List.size_toArray, List.length_cons, List.length_nil, Nat.reduceAdd, Nat.reduceSub, Array.replicate_succ, Array.replicate_zero, List.push_toArray, List.nil_append, List.cons_append])
                (refine hwalk_take (i := 0) (d := some 69) (v := ?_) rfl (by rfl) (by kernel_rfl) (by kernel_rfl) (by kernel_rfl) (fun _ _ _ h => h) (Or.inl ⟨by rfl, ?_⟩) (by with_reducible assumption) ?_; rotate_left 1; (· ((intro w hSw); (try dsimp only at hSw); first | (go_simp; done) | (go_simp; with_reducible rfl))); (try simp only [Act.put, List.setIfInBounds_toArray, List.set_cons_zero, List.set_cons_succ]))
                (refine hwalk_take (i := 1) (d := some 70) (v := ?_) rfl (by rfl) (by kernel_rfl) (by kernel_rfl) (by kernel_rfl) (fun _ _ _ h => h) (Or.inl ⟨by rfl, ?_⟩) (by with_reducible assumption) ?_; rotate_left 1; (· ((intro w hSw); (try dsimp only at hSw); first | (go_simp; done) | (go_simp; with_reducible rfl))); (try simp only [Act.put, List.setIfInBounds_toArray, List.set_cons_zero, List.set_cons_succ]))
                (refine hwalk_take (i := 2) (d := some 71) (v := ?_) rfl (by rfl) (by kernel_rfl) (by kernel_rfl) (by kernel_rfl) (fun _ _ _ h => h) (Or.inl ⟨by rfl, ?_⟩) (by with_reducible assumption) ?_; rotate_left 1; (· ((intro w hSw); (try dsimp only at hSw); first | (go_simp; done) | (go_simp; with_reducible rfl))); (try simp only [Act.put, List.setIfInBounds_toArray, List.set_cons_zero, List.set_cons_succ]))
                (refine hwalk_take (i := 3) (d := some 72) (v := ?_) rfl (by rfl) (by kernel_rfl) (by kernel_rfl) (by kernel_rfl) (fun _ _ _ h => h) (Or.inl ⟨by rfl, ?_⟩) (by with_reducible assumption) ?_; rotate_left 1; (· ((intro w hSw); (try dsimp only at hSw); first | (go_simp; done) | (go_simp; with_reducible rfl))); (try simp only [Act.put, List.setIfInBounds_toArray, List.set_cons_zero, List.set_cons_succ]))
                (refine hwalk_take (i := 4) (d := some 73) (v := ?_) rfl (by rfl) (by kernel_rfl) (by kernel_rfl) (by kernel_rfl) (fun _ _ _ h => h) (Or.inl ⟨by rfl, ?_⟩) (by with_reducible assumption) ?_; rotate_left 1; (· ((intro w hSw); (try dsimp only at hSw); first | (go_simp; done) | (go_simp; with_reducible rfl))); (try simp only [Act.put, List.setIfInBounds_toArray, List.set_cons_zero, List.set_cons_succ]))
                (refine hwalk_take (i := 5) (d := some 74) (v := ?_) rfl (by rfl) (by kernel_rfl) (by kernel_rfl) (by kernel_rfl) (fun _ _ _ h => h) (Or.inl ⟨by rfl, ?_⟩) (by with_reducible assumption) ?_; rotate_left 1; (· ((intro w hSw); (try dsimp only at hSw); first | (go_simp; done) | (go_simp; with_reducible rfl))); (try simp only [Act.put, List.setIfInBounds_toArray, List.set_cons_zero, List.set_cons_succ]))
                (refine hwalk_take (i := 6) (d := some 75) (v := ?_) rfl (by rfl) (by kernel_rfl) (by kernel_rfl) (by kernel_rfl) (fun _ _ _ h => h) (Or.inl ⟨by rfl, ?_⟩) (by with_reducible assumption) ?_; rotate_left 1; (· ((intro w hSw); (try dsimp only at hSw); first | (go_simp; done) | (go_simp; with_reducible rfl))); (try simp only [Act.put, List.setIfInBounds_toArray, List.set_cons_zero, List.set_cons_succ]))
                (refine hwalk_take (i := 7) (d := some 76) (v := ?_) rfl (by rfl) (by kernel_rfl) (by kernel_rfl) (by kernel_rfl) (fun _ _ _ h => h) (Or.inl ⟨by rfl, ?_⟩) (by with_reducible assumption) ?_; rotate_left 1; (· ((intro w hSw); (try dsimp only at hSw); first | (go_simp; done) | (go_simp; with_reducible rfl))); (try simp only [Act.put, List.setIfInBounds_toArray, List.set_cons_zero, List.set_cons_succ]))
                (refine hwalk_take (i := 8) (d := some 77) (v := ?_) rfl (by rfl) (by kernel_rfl) (by kernel_rfl) (by kernel_rfl) (fun _ _ _ h => h) (Or.inl ⟨by rfl, ?_⟩) (by with_reducible assumption) ?_; rotate_left 1; (· ((intro w hSw); (try dsimp only at hSw); first | (go_simp; done) | (go_simp; with_reducible rfl))); (try simp only [Act.put, List.setIfInBounds_toArray, List.set_cons_zero, List.set_cons_succ]))
                (refine hwalk_take (i := 9) (d := some 78) (v := ?_) rfl (by rfl) (by kernel_rfl) (by kernel_rfl) (by kernel_rfl) (fun _ _ _ h => h) (Or.inl ⟨by rfl, ?_⟩) (by with_reducible assumption) ?_; rotate_left 1; (· ((intro w hSw); (try dsimp only at hSw); first | (go_simp; done) | (go_simp; with_reducible rfl))); (try simp only [Act.put, List.setIfInBounds_toArray, List.set_cons_zero, List.set_cons_succ]))
                (refine hwalk_take (i := 10) (d := some 79) (v := ?_) rfl (by rfl) (by kernel_rfl) (by kernel_rfl) (by kernel_rfl) (fun _ _ _ h => h) (Or.inl ⟨by rfl, ?_⟩) (by with_reducible assumption) ?_; rotate_left 1; (· ((intro w hSw); (try dsimp only at hSw); first | (go_simp; done) | (go_simp; with_reducible rfl))); (try simp only [Act.put, List.setIfInBounds_toArray, List.set_cons_zero, List.set_cons_succ]))
                (refine hwalk_take (i := 11) (d := some 80) (v := ?_) rfl (by rfl) (by kernel_rfl) (by kernel_rfl) (by kernel_rfl) (fun _ _ _ h => h) (Or.inl ⟨by rfl, ?_⟩) (by with_reducible assumption) ?_; rotate_left 1; (· ((intro w hSw); (try dsimp only at hSw); first | (go_simp; done) | (go_simp; with_reducible rfl))); (try simp only [Act.put, List.setIfInBounds_toArray, List.set_cons_zero, List.set_cons_succ]))
                (refine hwalk_take (i := 12) (d := some 81) (v := ?_) rfl (by rfl) (by kernel_rfl) (by kernel_rfl) (by kernel_rfl) (fun _ _ _ h => h) (Or.inl ⟨by rfl, ?_⟩) (by with_reducible assumption) ?_; rotate_left 1; (· ((intro w hSw); (try dsimp only at hSw); first | (go_simp; done) | (go_simp; with_reducible rfl))); (try simp only [Act.put, List.setIfInBounds_toArray, List.set_cons_zero, List.set_cons_succ]))
                (refine hwalk_take (i := 13) (d := some 82) (v := ?_) rfl (by rfl) (by kernel_rfl) (by kernel_rfl) (by kernel_rfl) (fun _ _ _ h => h) (Or.inl ⟨by rfl, ?_⟩) (by with_reducible assumption) ?_; rotate_left 1; (· ((intro w hSw); (try dsimp only at hSw); first | (go_simp; done) | (go_simp; with_reducible rfl))); (try simp only [Act.put, List.setIfInBounds_toArray, List.set_cons_zero, List.set_cons_succ]))
                (refine hwalk_take (i := 14) (d := some 83) (v := ?_) rfl (by rfl) (by kernel_rfl) (by kernel_rfl) (by kernel_rfl) (fun _ _ _ h => h) (Or.inl ⟨by rfl, ?_⟩) (by with_reducible assumption) ?_; rotate_left 1; (· ((intro w hSw); (try dsimp only at hSw); first | (go_simp; done) | (go_simp; with_reducible rfl))); (try simp only [Act.put, List.setIfInBounds_toArray, List.set_cons_zero, List.set_cons_succ]))
                (refine hwalk_take (i := 15) (d := some 84) (v := ?_) rfl (by rfl) (by kernel_rfl) (by kernel_rfl) (by kernel_rfl) (fun _ _ _ h => h) (Or.inl ⟨by rfl, ?_⟩) (by with_reducible assumption) ?_; rotate_left 1; (· ((intro w hSw); (try dsimp only at hSw); first | (go_simp; done) | (go_simp; with_reducible rfl))); (try simp only [Act.put, List.setIfInBounds_toArray, List.set_cons_zero, List.set_cons_succ]))
                (refine hwalk_take (i := 16) (d := some 85) (v := ?_) rfl (by rfl) (by kernel_rfl) (by kernel_rfl) (by kernel_rfl) (fun _ _ _ h => h) (Or.inl ⟨by rfl, ?_⟩) (by with_reducible assumption) ?_; rotate_left 1; (· ((intro w hSw); (try dsimp only at hSw); first | (go_simp; done) | (go_simp; with_reducible rfl))); (try simp only [Act.put, List.setIfInBounds_toArray, List.set_cons_zero, List.set_cons_succ]))
                (refine hwalk_take (i := 17) (d := some 86) (v := ?_) rfl (by rfl) (by kernel_rfl) (by kernel_rfl) (by kernel_rfl) (fun _ _ _ h => h) (Or.inl ⟨by rfl, ?_⟩) (by with_reducible assumption) ?_; rotate_left 1; (· ((intro w hSw); (try dsimp only at hSw); first | (go_simp; done) | (go_simp; with_reducible rfl))); (try simp only [Act.put, List.setIfInBounds_toArray, List.set_cons_zero, List.set_cons_succ]))
                (refine hwalk_take (i := 18) (d := some 87) (v := ?_) rfl (by rfl) (by kernel_rfl) (by kernel_rfl) (by kernel_rfl) (fun _ _ _ h => h) (Or.inl ⟨by rfl, ?_⟩) (by with_reducible assumption) ?_; rotate_left 1; (· ((intro w hSw); (try dsimp only at hSw); first | (go_simp; done) | (go_simp; with_reducible rfl))); (try simp only [Act.put, List.setIfInBounds_toArray, List.set_cons_zero, List.set_cons_succ]))
                refine hwalk_one (i := 19) rfl (by kernel_rfl) (by kernel_rfl) rfl (fun K hK => ?_)
                go_simp
                refine hK _ _ hS1 ?_
                clear hK K
                (try simp only [Act.put, List.setIfInBounds_toArray, List.set_cons_zero, List.set_cons_succ])
                change HWalk _ _ _ _ _ _ _ _ _ ((w7.alloc (.cells (putC (at6, bits .or .u32 (bits .andNot .u32 wd (mk * 256 % 4294967296)) (bits .and .u32 v mk * 256 % 4294967296))).toArray 69)).drew)
                generalize (w7.alloc (.cells (putC (at6, bits .or .u32 (bits .andNot .u32 wd (mk * 256 % 4294967296)) (bits .and .u32 v mk * 256 % 4294967296))).toArray 69)).drew = W8 at hq hS1 b8 ⊢
                refine hwalk_one (i := 20) rfl (by kernel_rfl) (by kernel_rfl) rfl (fun K hK => ?_)
                refine wp_append_el putC_len (by omega) put_info rfl putC_one 27 Try.underlying27 (.tmp 73) (.tmp 88) rfl vp1 m.puts rfl (row7.same (fun j q => b8.block j (row7.lt j q))) (at6, bits .or .u32 (bits .andNot .u32 wd (mk * 256 % 4294967296)) (bits .and .u32 v mk * 256 % 4294967296)) w7.heap.size 69 rfl hq (by have := h.ok.putn; unfold maxLen; omega) (by have := h.ok.putn; omega) ?_
                intro g2 cap2 w9 row9 gr9 hat9
                refine hK _ _ (hS1.trans (gsOwn gr9)) ?_
                clear hK K
                have hb9 := (hb7.below b8 hb7.lt).grown gr9 (fun e => np1 e.symm)
                have t9 : w9.cell? ⟨g, 0, none⟩ = some vp1 := hb9.cell 0
                have f9 := hb9.frozen 0
                refine hwalk_done (by kernel_rfl) ?_
                simp only [Act.put, List.setIfInBounds_toArray, List.set_cons_zero, List.set_cons_succ, List.drop_succ_cons, List.drop_zero]
                obtain ⟨O2, hI9, G9, k9, e9⟩ := PUT.out _ w9 _ g2 cap2 b8 row9 gr9 hat9 rfl
                have hZ9 := hZ7.gs G9 nZ
                clear f0 y3 hS0 hS1 a0
                go_upto_region 15 with fail
                clear t9 f9 hb9 row9 hq row7 hb7
                generalize w9.setCell ⟨g, 0, none⟩ (.slice (some ⟨g2, 0, none⟩) (m.puts.length + 1) cap2) = wA at hI9 G9 e9 hZ9 ⊢
                go_wp2_with (refine wpList_store_all rfl 90 (.tmp 4) (.tmp 92) rfl (w.heap.size + 1) (ansCells ⟨0, 0, 0, 0⟩).toArray rfl rfl hZ9 rfl (by rw [ans_size]; rfl) rfl ?_; intro w8 B8 g8 _z8)
                refine ret_cell 4 90 (w.heap.size + 1) (ansCells ⟨0, 0, 0, 0⟩) _ rfl rfl B8.range Try.underlying90 rfl (by rw [ans_size]; rfl) rfl ?_
                rw [HE.out]
                have nZ2 : ¬ O2 (w.heap.size + 1) := fun q => (k9 _ q).elim nZ (fun l => by have := hZ7.lt; have := b8.size; omega)
                have k9' : ∀ j, O2 j → O j ∨ w.heap.size ≤ j := fun j q => (k9 j q).elim (k5 j) (fun l => Or.inr (by have := b8.size; have := hZ7.lt; omega))
                exact ⟨rfl, O2, hI9.keep (GrownS.ofOne (S := fun j => j = w.heap.size + 1) g8 rfl) (fun j q e => nZ2 (e ▸ q)), (grownS_chain G7 G9 k5).new g8 (by omega), k9'⟩
              · have ST := bits32 .or (bits .andNot .u32 wd (mk * 65536 % 4294967296)) (bits .and .u32 v mk * 65536 % 4294967296)
                obtain ⟨vp1, vh1, va1, hb7, np1, row7, PUT⟩ := line_put hI7 (by have := h.ok.putn; dsimp only; omega) (at6, bits .or .u32 (bits .andNot .u32 wd (mk * 65536 % 4294967296)) (bits .and .u32 v mk * 65536 % 4294967296)) ⟨atu, ST⟩
                have PUT := Lib.hid PUT
                clear ST
                have np2 : vp1.ownBlock ≠ some w.heap.size := fun e => nA (by
                  obtain ⟨a1, a2, a3, b1, _, _, _, c1, _⟩ := hI7.ex
                  have e1 : vp1 = a1 := Option.some.inj ((hb7.cell 0).symm.trans (b1.cell 0))
                  exact (c1 _).2 (Or.inr (Or.inl (e1 ▸ e))))
                have f0 : ∀ w', GrownS w7 w' (fun j => vp1.ownBlock = some j) → w'.cell? ⟨g, 0, none⟩ = some vp1 := fun w' k => (hb7.gs k np1).cell 0
                have y3 : ∀ w', GrownS w7 w' (fun j => vp1.ownBlock = some j) → w'.cell? ⟨w.heap.size, 3, none⟩ = some (.int .u32 v) := fun w' k => (hA7.gs k np2).cell 3
                have hS0 : GrownS w7 w7.drew (fun j => vp1.ownBlock = some j) := GrownS.drew _ _
                have b8 : Below w7.heap.size w7 ((w7.alloc (.cells (putC (at6, bits .or .u32 (bits .andNot .u32 wd (mk * 65536 % 4294967296)) (bits .and .u32 v mk * 65536 % 4294967296))).toArray 69)).drew) := bdrew ((Below.refl _ _).alloc (Nat.le_refl _) _)
                have hq : Blok ((w7.alloc (.cells (putC (at6, bits .or .u32 (bits .andNot .u32 wd (mk * 65536 % 4294967296)) (bits .and .u32 v mk * 65536 % 4294967296))).toArray 69)).drew) w7.heap.size 69 (putC (at6, bits .or .u32 (bits .andNot .u32 wd (mk * 65536 % 4294967296)) (bits .and .u32 v mk * 65536 % 4294967296))) := (Blok.new w7 _ (putC _)).drewN 1
                have hS1 : GrownS w7 ((w7.alloc (.cells (putC (at6, bits .or .u32 (bits .andNot .u32 wd (mk * 65536 % 4294967296)) (bits .and .u32 v mk * 65536 % 4294967296))).toArray 69)).drew) (fun j => vp1.ownBlock = some j) := GrownS.ofBelow b8
                (refine hwalk_start (S := (fun w' => GrownS w7 w' (fun j => vp1.ownBlock = some j))) 21 (by kernel_rfl) (by kernel_rfl) (by kernel_rfl) (by kernel_rfl) (by kernel_rfl) ?_; simp only [List.size_toArray, List.length_cons, List.length_nil, Nat.reduceAdd, Nat.reduceSub, Array.replicate_succ, Array.replicate_zero, List.push_toArray, List.nil_append, List.cons_append])
                (refine hwalk_take (i := 0) (d := some 69) (v := ?_) rfl (by rfl) (by kernel_rfl) (by kernel_rfl) (by kernel_rfl) (fun _ _ _ h => h) (Or.inl ⟨by rfl, ?_⟩) (by with_reducible assumption) ?_; rotate_left 1; (· ((intro w hSw); (try dsimp only at hSw); first | (go_simp; done) | (go_simp; with_reducible rfl))); (try simp only [Act.put, List.setIfInBounds_toArray, List.set_cons_zero, List.set_cons_succ]))
                (refine hwalk_take (i := 1) (d := some 70) (v := ?_) rfl (by rfl) (by kernel_rfl) (by kernel_rfl) (by kernel_rfl) (fun _ _ _ h => h) (Or.inl ⟨by rfl, ?_⟩) (by with_reducible assumption) ?_; rotate_left 1; (· ((intro w hSw); (try dsimp only at hSw); first | (go_simp; done) | (go_simp; with_reducible rfl))); (try simp only [Act.put, List.setIfInBounds_toArray, List.set_cons_zero, List.set_cons_succ]))
                (refine hwalk_take (i := 2) (d := some 71) (v := ?_) rfl (by rfl) (by kernel_rfl) (by kernel_rfl) (by kernel_rfl) (fun _ _ _ h => h) (Or.inl ⟨by rfl, ?_⟩) (by with_reducible assumption) ?_; rotate_left 1; (· ((intro w hSw); (try dsimp only at hSw); first | (go_simp; done) | (go_simp; with_reducible rfl))); (try simp only [Act.put, List.setIfInBounds_toArray, List.set_cons_zero, List.set_cons_succ]))
                (refine hwalk_take (i := 3) (d := some 72) (v := ?_) rfl (by rfl) (by kernel_rfl) (by kernel_rfl) (by kernel_rfl) (fun _ _ _ h => h) (Or.inl ⟨by rfl, ?_⟩) (by with_reducible assumption) ?_; rotate_left 1; (· ((intro w hSw); (try dsimp only at hSw); first | (go_simp; done) | (go_simp; with_reducible rfl))); (try simp only [Act.put, List.setIfInBounds_toArray, List.set_cons_zero, List.set_cons_succ]))
                (refine hwalk_take (i := 4) (d := some 73) (v := ?_) rfl (by rfl) (by kernel_rfl) (by kernel_rfl) (by kernel_rfl) (fun _ _ _ h => h) (Or.inl ⟨by rfl, ?_⟩) (by with_reducible assumption) ?_; rotate_left 1; (· ((intro w hSw); (try dsimp only at hSw); first | (go_simp; done) | (go_simp; with_reducible rfl))); (try simp only [Act.put, List.setIfInBounds_toArray, List.set_cons_zero, List.set_cons_succ]))
                (refine hwalk_take (i := 5) (d := some 74) (v := ?_) rfl (by rfl) (by kernel_rfl) (by kernel_rfl) (by kernel_rfl) (fun _ _ _ h => h) (Or.inl ⟨by rfl, ?_⟩) (by with_reducible assumption) ?_; rotate_left 1; (· ((intro w hSw); (try dsimp only at hSw); first | (go_simp; done) | (go_simp; with_reducible rfl))); (try simp only [Act.put, List.setIfInBounds_toArray, List.set_cons_zero, List.set_cons_succ]))
                (refine hwalk_take (i := 6) (d := some 75) (v := ?_) rfl (by rfl) (by kernel_rfl) (by kernel_rfl) (by kernel_rfl) (fun _ _ _ h => h) (Or.inl ⟨by rfl, ?_⟩) (by with_reducible assumption) ?_; rotate_left 1; (· ((intro w hSw); (try dsimp only at hSw); first | (go_simp; done) | (go_simp; with_reducible rfl))); (try simp only [Act.put, List.setIfInBounds_toArray, List.set_cons_zero, List.set_cons_succ]))
                (refine hwalk_take (i := 7) (d := some 76) (v := ?_) rfl (by rfl) (by kernel_rfl) (by kernel_rfl) (by kernel_rfl) (fun _ _ _ h => h) (Or.inl ⟨by rfl, ?_⟩) (by with_reducible assumption) ?_; rotate_left 1; (· ((intro w hSw); (try dsimp only at hSw); first | (go_simp; done) | (go_simp; with_reducible rfl))); (try simp only [Act.put, List.setIfInBounds_toArray, List.set_cons_zero, List.set_cons_succ]))
                (refine hwalk_take (i := 8) (d := some 77) (v := ?_) rfl (by rfl) (by kernel_rfl) (by kernel_rfl) (by kernel_rfl) (fun _ _ _ h => h) (Or.inl ⟨by rfl, ?_⟩) (by with_reducible assumption) ?_; rotate_left 1; (· ((intro w hSw); (try dsimp only at hSw); first | (go_simp; done) | (go_simp; with_reducible rfl))); (try simp only [Act.put, List.setIfInBounds_toArray, List.set_cons_zero, List.set_cons_succ]))
                (refine hwalk_take (i := 9) (d := some 78) (v := ?_) rfl (by rfl) (by kernel_rfl) (by kernel_rfl) (by kernel_rfl) (fun _ _ _ h => h) (Or.inl ⟨by rfl, ?_⟩) (by with_reducible assumption) ?_; rotate_left 1; (· ((intro w hSw); (try dsimp only at hSw); first | (go_simp; done) | (go_simp; with_reducible rfl))); (try simp only [Act.put, List.setIfInBounds_toArray, List.set_cons_zero, List.set_cons_succ]))
                (refine hwalk_take (i := 10) (d := some 79) (v := ?_) rfl (by rfl) (by kernel_rfl) (by kernel_rfl) (by kernel_rfl) (fun _ _ _ h => h) (Or.inl ⟨by rfl, ?_⟩) (by with_reducible assumption) ?_; rotate_left 1; (· ((intro w hSw); (try dsimp only at hSw); first | (go_simp; done) | (go_simp; with_reducible rfl))); (try simp only [Act.put, List.setIfInBounds_toArray, List.set_cons_zero, List.set_cons_succ]))
                (refine hwalk_take (i := 11) (d := some 80) (v := ?_) rfl (by rfl) (by kernel_rfl) (by kernel_rfl) (by kernel_rfl) (fun _ _ _ h => h) (Or.inl ⟨by rfl, ?_⟩) (by with_reducible assumption) ?_; rotate_left 1; (· ((intro w hSw); (try dsimp only at hSw); first | (go_simp; done) | (go_simp; with_reducible rfl))); (try simp only [Act.put, List.setIfInBounds_toArray, List.set_cons_zero, List.set_cons_succ]))
                (refine hwalk_take (i := 12) (d := some 81) (v := ?_) rfl (by rfl) (by kernel_rfl) (by kernel_rfl) (by kernel_rfl) (fun _ _ _ h => h) (Or.inl ⟨by rfl, ?_⟩) (by with_reducible assumption) ?_; rotate_left 1; (· ((intro w hSw); (try dsimp only at hSw); first | (go_simp; done) | (go_simp; with_reducible rfl))); (try simp only [Act.put, List.setIfInBounds_toArray, List.set_cons_zero, List.set_cons_succ]))
                (refine hwalk_take (i := 13) (d := some 82) (v := ?_) rfl (by rfl) (by kernel_rfl) (by kernel_rfl) (by kernel_rfl) (fun _ _ _ h => h) (Or.inl ⟨by rfl, ?_⟩) (by with_reducible assumption) ?_; rotate_left 1; (· ((intro w hSw); (try dsimp only at hSw); first | (go_simp; done) | (go_simp; with_reducible rfl))); (try simp only [Act.put, List.setIfInBounds_toArray, List.set_cons_zero, List.set_cons_succ]))
                (refine hwalk_take (i := 14) (d := some 83) (v := ?_) rfl (by rfl) (by kernel_rfl) (by kernel_rfl) (by kernel_rfl) (fun _ _ _ h => h) (Or.inl ⟨by rfl, ?_⟩) (by with_reducible assumption) ?_; rotate_left 1; (· ((intro w hSw); (try dsimp only at hSw); first | (go_simp; done) | (go_simp; with_reducible rfl))); (try simp only [Act.put, List.setIfInBounds_toArray, List.set_cons_zero, List.set_cons_succ]))
                (refine hwalk_take (i := 15) (d := some 84) (v := ?_) rfl (by rfl) (by kernel_rfl) (by kernel_rfl) (by kernel_rfl) (fun _ _ _ h => h) (Or.inl ⟨by rfl, ?_⟩) (by with_reducible assumption) ?_; rotate_left 1; (· ((intro w hSw); (try dsimp only at hSw); first | (go_simp; done) | (go_simp; with_reducible rfl))); (try simp only [Act.put, List.setIfInBounds_toArray, List.set_cons_zero, List.set_cons_succ]))
                (refine hwalk_take (i := 16) (d := some 85) (v := ?_) rfl (by rfl) (by kernel_rfl) (by kernel_rfl) (by kernel_rfl) (fun _ _ _ h => h) (Or.inl ⟨by rfl, ?_⟩) (by with_reducible assumption) ?_; rotate_left 1; (· ((intro w hSw); (try dsimp only at hSw); first | (go_simp; done) | (go_simp; with_reducible rfl))); (try simp only [Act.put, List.setIfInBounds_toArray, List.set_cons_zero, List.set_cons_succ]))
                (refine hwalk_take (i := 17) (d := some 86) (v := ?_) rfl (by rfl) (by kernel_rfl) (by kernel_rfl) (by kernel_rfl) (fun _ _ _ h => h) (Or.inl ⟨by rfl, ?_⟩) (by with_reducible assumption) ?_; rotate_left 1; (· ((intro w hSw); (try dsimp only at hSw); first | (go_simp; done) | (go_simp; with_reducible rfl))); (try simp only [Act.put, List.setIfInBounds_toArray, List.set_cons_zero, List.set_cons_succ]))
                (refine hwalk_take (i := 18) (d := some 87) (v := ?_) rfl (by rfl) (by kernel_rfl) (by kernel_rfl) (by kernel_rfl) (fun _ _ _ h => h) (Or.inl ⟨by rfl, ?_⟩) (by with_reducible assumption) ?_; rotate_left 1; (· ((intro w hSw); (try dsimp only at hSw); first | (go_simp; done) | (go_simp; with_reducible rfl))); (try simp only [Act.put, List.setIfInBounds_toArray, List.set_cons_zero, List.set_cons_succ]))
                refine hwalk_one (i := 19) rfl (by kernel_rfl) (by kernel_rfl) rfl (fun K hK => ?_)
                go_simp
                refine hK _ _ hS1 ?_
                clear hK K
                (try simp only [Act.put, List.setIfInBounds_toArray, List.set_cons_zero, List.set_cons_succ])
                change HWalk _ _ _ _ _ _ _ _ _ ((w7.alloc (.cells (putC (at6, bits .or .u32 (bits .andNot .u32 wd (mk * 65536 % 4294967296)) (bits .and .u32 v mk * 65536 % 4294967296))).toArray 69)).drew)
                generalize (w7.alloc (.cells (putC (at6, bits .or .u32 (bits .andNot .u32 wd (mk * 65536 % 4294967296)) (bits .and .u32 v mk * 65536 % 4294967296))).toArray 69)).drew = W8 at hq hS1 b8 ⊢
                refine hwalk_one (i := 20) rfl (by kernel_rfl) (by kernel_rfl) rfl (fun K hK => ?_)
                refine wp_append_el putC_len (by omega) put_info rfl putC_one 27 Try.underlying27 (.tmp 73) (.tmp 88) rfl vp1 m.puts rfl (row7.same (fun j q => b8.block j (row7.lt j q))) (at6, bits .or .u32 (bits .andNot .u32 wd (mk * 65536 % 4294967296)) (bits .and .u32 v mk * 65536 % 4294967296)) w7.heap.size 69 rfl hq (by have := h.ok.putn; unfold maxLen; omega) (by have := h.ok.putn; omega) ?_
                intro g2 cap2 w9 row9 gr9 hat9
                refine hK _ _ (hS1.trans (gsOwn gr9)) ?_
                clear hK K
                have hb9 := (hb7.below b8 hb7.lt).grown gr9 (fun e => np1 e.symm)
                have t9 : w9.cell? ⟨g, 0, none⟩ = some vp1 := hb9.cell 0
                have f9 := hb9.frozen 0
                refine hwalk_done (by kernel_rfl) ?_
                simp only [Act.put, List.setIfInBounds_toArray, List.set_cons_zero, List.set_cons_succ, List.drop_succ_cons, List.drop_zero]
                obtain ⟨O2, hI9, G9, k9, e9⟩ := PUT.out _ w9 _ g2 cap2 b8 row9 gr9 hat9 rfl
                have hZ9 := hZ7.gs G9 nZ
                clear f0 y3 hS0 hS1 a0
                go_upto_region 15 with fail
                clear t9 f9 hb9 row9 hq row7 hb7
                generalize w9.setCell ⟨g, 0, none⟩ (.slice (some ⟨g2, 0, none⟩) (m.puts.length + 1) cap2) = wA at hI9 G9 e9 hZ9 ⊢
                go_wp2_with (refine wpList_store_all rfl 90 (.tmp 4) (.tmp 92) rfl (w.heap.size + 1) (ansCells ⟨0, 0, 0, 0⟩).toArray rfl rfl hZ9 rfl (by rw [ans_size]; rfl) rfl ?_; intro w8 B8 g8 _z8)
                refine ret_cell 4 90 (w.heap.size + 1) (ansCells ⟨0, 0, 0, 0⟩) _ rfl rfl B8.range Try.underlying90 rfl (by rw [ans_size]; rfl) rfl ?_
                rw [HE.out]
                have nZ2 : ¬ O2 (w.heap.size + 1) := fun q => (k9 _ q).elim nZ (fun l => by have := hZ7.lt; have := b8.size; omega)
                have k9' : ∀ j, O2 j → O j ∨ w.heap.size ≤ j := fun j q => (k9 j q).elim (k5 j) (fun l => Or.inr (by have := b8.size; have := hZ7.lt; omega))
                exact ⟨rfl, O2, hI9.keep (GrownS.ofOne (S := fun j => j = w.heap.size + 1) g8 rfl) (fun j q e => nZ2 (e ▸ q)), (grownS_chain G7 G9 k5).new g8 (by omega), k9'⟩
              · have ST := bits32 .or (bits .andNot .u32 wd (mk * 16777216 % 4294967296)) (bits .and .u32 v mk * 16777216 % 4294967296)
                obtain ⟨vp1, vh1, va1, hb7, np1, row7, PUT⟩ := line_put hI7 (by have := h.ok.putn; dsimp only; omega) (at6, bits .or .u32 (bits .andNot .u32 wd (mk * 16777216 % 4294967296)) (bits .and .u32 v mk * 16777216 % 4294967296)) ⟨atu, ST⟩
                have PUT := Lib.hid PUT
                clear ST
                have np2 : vp1.ownBlock ≠ some w.heap.size := fun e => nA (by
                  obtain ⟨a1, a2, a3, b1, _, _, _, c1, _⟩ := hI7.ex
                  have e1 : vp1 = a1 := Option.some.inj ((hb7.cell 0).symm.trans (b1.cell 0))
                  exact (c1 _).2 (Or.inr (Or.inl (e1 ▸ e))))
                have f0 : ∀ w', GrownS w7 w' (fun j => vp1.ownBlock = some j) → w'.cell? ⟨g, 0, none⟩ = some vp1 := fun w' k => (hb7.gs k np1).cell 0
                have y3 : ∀ w', GrownS w7 w' (fun j => vp1.ownBlock = some j) → w'.cell? ⟨w.heap.size, 3, none⟩ = some (.int .u32 v) := fun w' k => (hA7.gs k np2).cell 3
                have hS0 : GrownS w7 w7.drew (fun j => vp1.ownBlock = some j) := GrownS.drew _ _
                have b8 : Below w7.heap.size w7 ((w7.alloc (.cells (putC (at6, bits .or .u32 (bits .andNot .u32 wd (mk * 16777216 % 4294967296)) (bits .and .u32 v mk * 16777216 % 4294967296))).toArray 69)).drew) := bdrew ((Below.refl _ _).alloc (Nat.le_refl _) _)
                have hq : Blok ((w7.alloc (.cells (putC (at6, bits .or .u32 (bits .andNot .u32 wd (mk * 16777216 % 4294967296)) (bits .and .u32 v mk * 16777216 % 4294967296))).toArray 69)).drew) w7.heap.size 69 (putC (at6, bits .or .u32 (bits .andNot .u32 wd (mk * 16777216 % 4294967296)) (bits .and .u32 v mk * 16777216 % 4294967296))) := (Blok.new w7 _ (putC _)).drewN 1
                have hS1 : GrownS w7 ((w7.alloc (.cells (putC (at6, bits .or .u32 (bits .andNot .u32 wd (mk * 16777216 % 4294967296)) (bits .and .u32 v mk * 16777216 % 4294967296))).toArray 69)).drew) (fun j => vp1.ownBlock = some j) := GrownS.ofBelow b8
                (refine hwalk_start (S := (fun w' => GrownS w7 w' (fun j => vp1.ownBlock = some j))) 21 (by kernel_rfl) (by kernel_rfl) (by kernel_rfl) (by kernel_rfl) (by kernel_rfl) ?_; simp only [List.size_toArray, List.length_cons, List.length_nil, Nat.reduceAdd, Nat.reduceSub, Array.replicate_succ, Array.replicate_zero, List.push_toArray, List.nil_append, List.cons_append])
                (refine hwalk_take (i := 0) (d := some 69) (v := ?_) rfl (by rfl) (by kernel_rfl) (by kernel_rfl) (by kernel_rfl) (fun _ _ _ h => h) (Or.inl ⟨by rfl, ?_⟩) (by with_reducible assumption) ?_; rotate_left 1; (· ((intro w hSw); (try dsimp only at hSw); first | (go_simp; done) | (go_simp; with_reducible rfl))); (try simp only [Act.put, List.setIfInBounds_toArray, List.set_cons_zero, List.set_cons_succ]))
                (refine hwalk_take (i := 1) (d := some 70) (v := ?_) rfl (by rfl) (by kernel_rfl) (by kernel_rfl) (by kernel_rfl) (fun _ _ _ h => h) (Or.inl ⟨by rfl, ?_⟩) (by with_reducible assumption) ?_; rotate_left 1; (· ((intro w hSw); (try dsimp only at hSw); first | (go_simp; done) | (go_simp; with_reducible rfl))); (try simp only [Act.put, List.setIfInBounds_toArray, List.set_cons_zero, List.set_cons_succ]))
                (refine hwalk_take (i := 2) (d := some 71) (v := ?_) rfl (by rfl) (by kernel_rfl) (by kernel_rfl) (by kernel_rfl) (fun _ _ _ h => h) (Or.inl ⟨by rfl, ?_⟩) (by with_reducible assumption) ?_; rotate_left 1; (· ((intro w hSw); (try dsimp only at hSw); first | (go_simp; done) | (go_simp; with_reducible rfl))); (try simp only [Act.put, List.setIfInBounds_toArray, List.set_cons_zero, List.set_cons_succ]))
                (refine hwalk_take (i := 3) (d := some 72) (v := ?_) rfl (by rfl) (by kernel_rfl) (by kernel_rfl) (by kernel_rfl) (fun _ _ _ h => h) (Or.inl ⟨by rfl, ?_⟩) (by with_reducible assumption) ?_; rotate_left 1; (· ((intro w hSw); (try dsimp only at hSw); first | (go_simp; done) | (go_simp; with_reducible rfl))); (try simp only [Act.put, List.setIfInBounds_toArray, List.set_cons_zero, List.set_cons_succ]))
                (refine hwalk_take (i := 4) (d := some 73) (v := ?_) rfl (by rfl) (by kernel_rfl) (by kernel_rfl) (by kernel_rfl) (fun _ _ _ h => h) (Or.inl ⟨by rfl, ?_⟩) (by with_reducible assumption) ?_; rotate_left 1; (· ((intro w hSw); (try dsimp only at hSw); first | (go_simp; done) | (go_simp; with_reducible rfl))); (try simp only [Act.put, List.setIfInBounds_toArray, List.set_cons_zero, List.set_cons_succ]))
                (refine hwalk_take (i := 5) (d := some 74) (v := ?_) rfl (by rfl) (by kernel_rfl) (by kernel_rfl) (by kernel_rfl) (fun _ _ _ h => h) (Or.inl ⟨by rfl, ?_⟩) (by with_reducible assumption) ?_; rotate_left 1; (· ((intro w hSw); (try dsimp only at hSw); first | (go_simp; done) | (go_simp; with_reducible rfl))); (try simp only [Act.put, List.setIfInBounds_toArray, List.set_cons_zero, List.set_cons_succ]))
                (refine hwalk_take (i := 6) (d := some 75) (v := ?_) rfl (by rfl) (by kernel_rfl) (by kernel_rfl) (by kernel_rfl) (fun _ _ _ h => h) (Or.inl ⟨by rfl, ?_⟩) (by with_reducible assumption) ?_; rotate_left 1; (· ((intro w hSw); (try dsimp only at hSw); first | (go_simp; done) | (go_simp; with_reducible rfl))); (try simp only [Act.put, List.setIfInBounds_toArray, List.set_cons_zero, List.set_cons_succ]))
                (refine hwalk_take (i := 7) (d := some 76) (v := ?_) rfl (by rfl) (by kernel_rfl) (by kernel_rfl) (by kernel_rfl) (fun _ _ _ h => h) (Or.inl ⟨by rfl, ?_⟩) (by with_reducible assumption) ?_; rotate_left 1; (· ((intro w hSw); (try dsimp only at hSw); first | (go_simp; done) | (go_simp; with_reducible rfl))); (try simp only [Act.put, List.setIfInBounds_toArray, List.set_cons_zero, List.set_cons_succ]))
                (refine hwalk_take (i := 8) (d := some 77) (v := ?_) rfl (by rfl) (by kernel_rfl) (by kernel_rfl) (by kernel_rfl) (fun _ _ _ h => h) (Or.inl ⟨by rfl, ?_⟩) (by with_reducible assumption) ?_; rotate_left 1; (· ((intro w hSw); (try dsimp only at hSw); first | (go_simp; done) | (go_simp; with_reducible rfl))); (try simp only [Act.put, List.setIfInBounds_toArray, List.set_cons_zero, List.set_cons_succ]))
                (refine hwalk_take (i := 9) (d := some 78) (v := ?_) rfl (by rfl) (by kernel_rfl) (by kernel_rfl) (by kernel_rfl) (fun _ _ _ h => h) (Or.inl ⟨by rfl, ?_⟩) (by with_reducible assumption) ?_; rotate_left 1; (· ((intro w hSw); (try dsimp only at hSw); first | (go_simp; done) | (go_simp; with_reducible rfl))); (try simp only [Act.put, List.setIfInBounds_toArray, List.set_cons_zero, List.set_cons_succ]))
                (refine hwalk_take (i := 10) (d := some 79) (v := ?_) rfl (by rfl) (by kernel_rfl) (by kernel_rfl) (by kernel_rfl) (fun _ _ _ h => h) (Or.inl ⟨by rfl, ?_⟩) (by with_reducible assumption) ?_; rotate_left 1; (· ((intro w hSw); (try dsimp only at hSw); first | (go_simp; done) | (go_simp; with_reducible rfl))); (try simp only [Act.put, List.setIfInBounds_toArray, List.set_cons_zero, List.set_cons_succ]))
                (refine hwalk_take (i := 11) (d := some 80) (v := ?_) rfl (by rfl) (by kernel_rfl) (by kernel_rfl) (by kernel_rfl) (fun _ _ _ h => h) (Or.inl ⟨by rfl, ?_⟩) (by with_reducible assumption) ?_; rotate_left 1; (· ((intro w hSw); (try dsimp only at hSw); first | (go_simp; done) | (go_simp; with_reducible rfl))); (try simp only [Act.put, List.setIfInBounds_toArray, List.set_cons_zero, List.set_cons_succ]))
                (refine hwalk_take (i := 12) (d := some 81) (v := ?_) rfl (by rfl) (by kernel_rfl) (by kernel_rfl) (by kernel_rfl) (fun _ _ _ h => h) (Or.inl ⟨by rfl, ?_⟩) (by with_reducible assumption) ?_; rotate_left 1; (· ((intro w hSw); (try dsimp only at hSw); first | (go_simp; done) | (go_simp; with_reducible rfl))); (try simp only [Act.put, List.setIfInBounds_toArray, List.set_cons_zero, List.set_cons_succ]))
                (refine hwalk_take (i := 13) (d := some 82) (v := ?_) rfl (by rfl) (by kernel_rfl) (by kernel_rfl) (by kernel_rfl) (fun _ _ _ h => h) (Or.inl ⟨by rfl, ?_⟩) (by with_reducible assumption) ?_; rotate_left 1; (· ((intro w hSw); (try dsimp only at hSw); first | (go_simp; done) | (go_simp; with_reducible rfl))); (try simp only [Act.put, List.setIfInBounds_toArray, List.set_cons_zero, List.set_cons_succ]))
                (refine hwalk_take (i := 14) (d := some 83) (v := ?_) rfl (by rfl) (by kernel_rfl) (by kernel_rfl) (by kernel_rfl) (fun _ _ _ h => h) (Or.inl ⟨by rfl, ?_⟩) (by with_reducible assumption) ?_; rotate_left 1; (· ((intro w hSw); (try dsimp only at hSw); first | (go_simp; done) | (go_simp; with_reducible rfl))); (try simp only [Act.put, List.setIfInBounds_toArray, List.set_cons_zero, List.set_cons_succ]))
                (refine hwalk_take (i := 15) (d := some 84) (v := ?_) rfl (by rfl) (by kernel_rfl) (by kernel_rfl) (by kernel_rfl) (fun _ _ _ h => h) (Or.inl ⟨by rfl, ?_⟩) (by with_reducible assumption) ?_; rotate_left 1; (· ((intro w hSw); (try dsimp only at hSw); first | (go_simp; done) | (go_simp; with_reducible rfl))); (try simp only [Act.put, List.setIfInBounds_toArray, List.set_cons_zero, List.set_cons_succ]))
                (refine hwalk_take (i := 16) (d := some 85) (v := ?_) rfl (by rfl) (by kernel_rfl) (by kernel_rfl) (by kernel_rfl) (fun _ _ _ h => h) (Or.inl ⟨by rfl, ?_⟩) (by with_reducible assumption) ?_; rotate_left 1; (· ((intro w hSw); (try dsimp only at hSw); first | (go_simp; done) | (go_simp; with_reducible rfl))); (try simp only [Act.put, List.setIfInBounds_toArray, List.set_cons_zero, List.set_cons_succ]))
                (refine hwalk_take (i := 17) (d := some 86) (v := ?_) rfl (by rfl) (by kernel_rfl) (by kernel_rfl) (by kernel_rfl) (fun _ _ _ h => h) (Or.inl ⟨by rfl, ?_⟩) (by with_reducible assumption) ?_; rotate_left 1; (· ((intro w hSw); (try dsimp only at hSw); first | (go_simp; done) | (go_simp; with_reducible rfl))); (try simp only [Act.put, List.setIfInBounds_toArray, List.set_cons_zero, List.set_cons_succ]))
                (refine hwalk_take (i := 18) (d := some 87) (v := ?_) rfl (by rfl) (by kernel_rfl) (by kernel_rfl) (by kernel_rfl) (fun _ _ _ h => h) (Or.inl ⟨by rfl, ?_⟩) (by with_reducible assumption) ?_; rotate_left 1; (· ((intro w hSw); (try dsimp only at hSw); first | (go_simp; done) | (go_simp; with_reducible rfl))); (try simp only [Act.put, List.setIfInBounds_toArray, List.set_cons_zero, List.set_cons_succ]))
                refine hwalk_one (i := 19) rfl (by kernel_rfl) (by kernel_rfl) rfl (fun K hK => ?_)
                go_simp
                refine hK _ _ hS1 ?_
                clear hK K
                (try simp only [Act.put, List.setIfInBounds_toArray, List.set_cons_zero, List.set_cons_succ])
                change HWalk _ _ _ _ _ _ _ _ _ ((w7.alloc (.cells (putC (at6, bits .or .u32 (bits .andNot .u32 wd (mk * 16777216 % 4294967296)) (bits .and .u32 v mk * 16777216 % 4294967296))).toArray 69)).drew)
                generalize (w7.alloc (.cells (putC (at6, bits .or .u32 (bits .andNot .u32 wd (mk * 16777216 % 4294967296)) (bits .and .u32 v mk * 16777216 % 4294967296))).toArray 69)).drew = W8 at hq hS1 b8 ⊢
                refine hwalk_one (i := 20) rfl (by kernel_rfl) (by kernel_rfl) rfl (fun K hK => ?_)
                refine wp_append_el putC_len (by omega) put_info rfl putC_one 27 Try.underlying27 (.tmp 73) (.tmp 88) rfl vp1 m.puts rfl (row7.same (fun j q => b8.block j (row7.lt j q))) (at6, bits .or .u32 (bits .andNot .u32 wd (mk * 16777216 % 4294967296)) (bits .and .u32 v mk * 16777216 % 4294967296)) w7.heap.size 69 rfl hq (by have := h.ok.putn; unfold maxLen; omega) (by have := h.ok.putn; omega) ?_
                intro g2 cap2 w9 row9 gr9 hat9
                refine hK _ _ (hS1.trans (gsOwn gr9)) ?_
                clear hK K
                have hb9 := (hb7.below b8 hb7.lt).grown gr9 (fun e => np1 e.symm)
                have t9 : w9.cell? ⟨g, 0, none⟩ = some vp1 := hb9.cell 0
                have f9 := hb9.frozen 0
                refine hwalk_done (by kernel_rfl) ?_
                simp only [Act.put, List.setIfInBounds_toArray, List.set_cons_zero, List.set_cons_succ, List.drop_succ_cons, List.drop_zero]
                obtain ⟨O2, hI9, G9, k9, e9⟩ := PUT.out _ w9 _ g2 cap2 b8 row9 gr9 hat9 rfl
                have hZ9 := hZ7.gs G9 nZ
                clear f0 y3 hS0 hS1 a0
                go_upto_region 15 with fail
                clear t9 f9 hb9 row9 hq row7 hb7
                generalize w9.setCell ⟨g, 0, none⟩ (.slice (some ⟨g2, 0, none⟩) (m.puts.length + 1) cap2) = wA at hI9 G9 e9 hZ9 ⊢
                go_wp2_with (refine wpList_store_all rfl 90 (.tmp 4) (.tmp 92) rfl (w.heap.size + 1) (ansCells ⟨0, 0, 0, 0⟩).toArray rfl rfl hZ9 rfl (by rw [ans_size]; rfl) rfl ?_; intro w8 B8 g8 _z8)
                refine ret_cell 4 90 (w.heap.size + 1) (ansCells ⟨0, 0, 0, 0⟩) _ rfl rfl B8.range Try.underlying90 rfl (by rw [ans_size]; rfl) rfl ?_
                rw [HE.out]
                have nZ2 : ¬ O2 (w.heap.size + 1) := fun q => (k9 _ q).elim nZ (fun l => by have := hZ7.lt; have := b8.size; omega)
                have k9' : ∀ j, O2 j → O j ∨ w.heap.size ≤ j := fun j q => (k9 j q).elim (k5 j) (fun l => Or.inr (by have := b8.size; have := hZ7.lt; omega))
                exact ⟨rfl, O2, hI9.keep (GrownS.ofOne (S := fun j => j = w.heap.size + 1) g8 rfl) (fun j q e => nZ2 (e ▸ q)), (grownS_chain G7 G9 k5).new g8 (by omega), k9'⟩
            · have e1 := HF.out
              rw [if_neg k3] at e1
              have HE := Lib.hid e1
              have z3 : (kind == 3) = false := by simp [k3]
              clear e1 HF k3
              go_upto_region 16 with fail
              rcases hsp with ⟨rfl, rfl⟩ | ⟨rfl, rfl⟩ | ⟨rfl, rfl⟩ | ⟨rfl, rfl⟩
              · have e0 := HE.out
                rw [Int.ediv_one] at e0
                clear HE
                have HE := Lib.hid e0
                clear e0
                go_wp2_with (refine wpList_store_all rfl 90 (.tmp 4) (.tmp 98) rfl (w.heap.size + 1) (ansCells ⟨bits .and .u32 wd mk, 0, 0, 0⟩).toArray rfl rfl hZ7 rfl (by rw [ans_size]; rfl) rfl ?_; intro w8 B8 g8 _z8)
                refine ret_cell 4 90 (w.heap.size + 1) (ansCells ⟨bits .and .u32 wd mk, 0, 0, 0⟩) _ rfl rfl B8.range Try.underlying90 rfl (by rw [ans_size]; rfl) rfl ?_
                rw [HE.out]
                exact ⟨rfl, O1, hI7.keep (GrownS.ofOne (S := fun j => j = w.heap.size + 1) g8 rfl) (fun j q e => nZ (e ▸ q)), G7.new g8 (by omega), k5⟩
              · go_wp2_with (refine wpList_store_all rfl 90 (.tmp 4) (.tmp 98) rfl (w.heap.size + 1) (ansCells ⟨bits .and .u32 (wd / 256) mk, 0, 0, 0⟩).toArray rfl rfl hZ7 rfl (by rw [ans_size]; rfl) rfl ?_; intro w8 B8 g8 _z8)
                refine ret_cell 4 90 (w.heap.size + 1) (ansCells ⟨bits .and .u32 (wd / 256) mk, 0, 0, 0⟩) _ rfl rfl B8.range Try.underlying90 rfl (by rw [ans_size]; rfl) rfl ?_
                rw [HE.out]
                exact ⟨rfl, O1, hI7.keep (GrownS.ofOne (S := fun j => j = w.heap.size + 1) g8 rfl) (fun j q e => nZ (e ▸ q)), G7.new g8 (by omega), k5⟩
              · go_wp2_with (refine wpList_store_all rfl 90 (.tmp 4) (.tmp 98) rfl (w.heap.size + 1) (ansCells ⟨bits .and .u32 (wd / 65536) mk, 0, 0, 0⟩).toArray rfl rfl hZ7 rfl (by rw [ans_size]; rfl) rfl ?_; intro w8 B8 g8 _z8)
                refine ret_cell 4 90 (w.heap.size + 1) (ansCells ⟨bits .and .u32 (wd / 65536) mk, 0, 0, 0⟩) _ rfl rfl B8.range Try.underlying90 rfl (by rw [ans_size]; rfl) rfl ?_
                rw [HE.out]
                exact ⟨rfl, O1, hI7.keep (GrownS.ofOne (S := fun j => j = w.heap.size + 1) g8 rfl) (fun j q e => nZ (e ▸ q)), G7.new g8 (by omega), k5⟩
              · go_wp2_with (refine wpList_store_all rfl 90 (.tmp 4) (.tmp 98) rfl (w.heap.size + 1) (ansCells ⟨bits .and .u32 (wd / 16777216) mk, 0, 0, 0⟩).toArray rfl rfl hZ7 rfl (by rw [ans_size]; rfl) rfl ?_; intro w8 B8 g8 _z8)
                refine ret_cell 4 90 (w.heap.size + 1) (ansCells ⟨bits .and .u32 (wd / 16777216) mk, 0, 0, 0⟩) _ rfl rfl B8.range Try.underlying90 rfl (by rw [ans_size]; rfl) rfl ?_
                rw [HE.out]
                exact ⟨rfl, O1, hI7.keep (GrownS.ofOne (S := fun j => j = w.heap.size + 1) g8 rfl) (fun j q e => nZ (e ▸ q)), G7.new g8 (by omega), k5⟩
end Go.Proofs.Ytpfhplhamnohjaa
