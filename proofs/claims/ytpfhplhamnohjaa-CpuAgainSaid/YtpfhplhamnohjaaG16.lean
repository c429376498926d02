/- Layer 20: the line's Mcr, Mrc. Layer 20: the line is a bus. Layer 20: NewLine. -/
import Derived.Test.YtpfhplhamnohjaaG15
import Derived.Test.YtpfhplhamnohjaaUNfm
import Derived.Test.YtpfhplhamnohjaaUKwm
import Derived.Laws.AppendOwnNone
namespace Go.Proofs.Ytpfhplhamnohjaa
set_option maxHeartbeats 25600000
set_option maxRecDepth 100000
open Go.RowKit

set_option linter.unusedSimpArgs false
theorem Blok.at2 {w w' : World} {g : Nat} {t : TypeId} {cs : List Value} (h : Blok w g t cs) (e : w'.heap[g]? = w.heap[g]?) : Blok w' g t cs := e.trans h
theorem tup_size : (Try.prog.info? 52).map (·.size) = some 4 := by kernel_rfl
theorem mayI_01 (crn : Int) (u : Bool) : (mayI crn u == 0) = true ∨ (mayI crn u == 0) = false := by cases (mayI crn u == 0) <;> simp
theorem hwalk_next {P : Program} {ops : Array Oper} {Q : Exit → Act → World → Prop} {S : World → Prop} {n m k : Nat} {oi : Oper} {d : Option Nat} {v : Value} {listed : Array Bool} {a : Act} {w : World} (hi : ops[n - (k + 1)]? = some oi) (hd : oi.dst = d) (hf : Region.free .any ops listed (n - (k + 1)) = true) (hr : (Region.ready .any ops listed).contains (n - (k + 1)) = true) (hin : decide (n - (k + 1) < n) = true)
    (hQ : ∀ c a w, Q (.panic c) (a.put d v) w → Q (.panic c) a w) (hy : YieldsIf P ops S oi v a) (hS : S w)
    (h : HWalk P ops Q S n m k (listed.setIfInBounds (n - (k + 1)) true) (a.put d v) w) : HWalk P ops Q S n m (k + 1) listed a w := hwalk_take hi hd hf hr hin hQ hy hS h
theorem Mcr_is (g : Nat) (m : LineM) (O : Nat → Prop) (i : Ins) (v : Int) (u : Bool) (hv : 0 ≤ v ∧ v < 4294967296) (hf : 0 < m.room) (w : World) (h : IsLine g m O w) :
    Calls Try.prog 121 #[.pointer (some ⟨g, 0, none⟩), .agg (tupCells i).toArray, .int .u32 v, .bool u] w
      (BusPost (IsLine g) O w (mcrLine m i v u).1 (.int .i64 (mcrLine m i v u).2)) := by
  have hx : (tupCells i).toArray = #[.int .i64 i.crn, .int .i64 i.op1, .int .i64 i.crm, .int .i64 i.op2] := rfl
  rw [hx]
  clear hx
  have hA : Blok (w.alloc (.cells #[.int .i64 i.crn, .int .i64 i.op1, .int .i64 i.crm, .int .i64 i.op2] 52)) w.heap.size 52 (tupCells i) := Blok.new w _ (tupCells i)
  have hB : Below w.heap.size w (w.alloc (.cells #[.int .i64 i.crn, .int .i64 i.op1, .int .i64 i.crm, .int .i64 i.op2] 52)) := (Below.refl _ _).alloc (Nat.le_refl _) _
  have hsz : (w.alloc (.cells #[.int .i64 i.crn, .int .i64 i.op1, .int .i64 i.crm, .int .i64 i.op2] 52)).heap.size = w.heap.size + 1 := by simp
  obtain ⟨R, hR⟩ : ∃ R, R = mcrLine m i v u := ⟨_, rfl⟩
  rw [← hR]
  have HR := Lib.hid hR
  clear hR
  obtain ⟨vp0, vh0, va0, hb, na, row, ASK⟩ := line_ask h hf ⟨0, 0, 0, 0, false, i.crn, i.op1, i.crm, i.op2, v, 1, u⟩ m.cop h.ok.cop
  have ASK := Lib.hid ASK
  have hask := h.ok.asks
  have hgl := hb.lt
  have hb' := hb.below hB hgl
  have row' := row.same (w' := (w.alloc (.cells #[.int .i64 i.crn, .int .i64 i.op1, .int .i64 i.crm, .int .i64 i.op2] 52))) (fun j q => hB.block j (row.lt j q))
  go_enter Try.func121, Try.ntmps121
  go_upto_region 1 with fail
  generalize w.alloc (.cells #[.int .i64 i.crn, .int .i64 i.op1, .int .i64 i.crm, .int .i64 i.op2] 52) = W1 at hA hB hsz hb' row' ⊢
  generalize Value.agg #[.int .i64 i.crn, .int .i64 i.op1, .int .i64 i.crm, .int .i64 i.op2] = vv
  have hq : Blok ((W1.alloc (.cells (askC ⟨0, 0, 0, 0, false, i.crn, i.op1, i.crm, i.op2, v, 1, u⟩).toArray 54)).drew) (w.heap.size + 1) 54 (askC ⟨0, 0, 0, 0, false, i.crn, i.op1, i.crm, i.op2, v, 1, u⟩) := by
    have := (Blok.new W1 54 (askC ⟨0, 0, 0, 0, false, i.crn, i.op1, i.crm, i.op2, v, 1, u⟩)).drewN 1
    rwa [hsz] at this
  have hS1 : GrownS W1 ((W1.alloc (.cells (askC ⟨0, 0, 0, 0, false, i.crn, i.op1, i.crm, i.op2, v, 1, u⟩).toArray 54)).drew) (fun j => va0.ownBlock = some j) := ((GrownS.refl _ _).alloc _).trans (GrownS.drew _ _)
  have b2 : Below w.heap.size w ((W1.alloc (.cells (askC ⟨0, 0, 0, 0, false, i.crn, i.op1, i.crm, i.op2, v, 1, u⟩).toArray 54)).drew) := bdrew (hB.alloc hB.size _)
  have s2 : ((W1.alloc (.cells (askC ⟨0, 0, 0, 0, false, i.crn, i.op1, i.crm, i.op2, v, 1, u⟩).toArray 54)).drew).heap.size = w.heap.size + 1 + 1 := by
    show (W1.alloc _).heap.size = _
    rw [← hsz]; simp
  have hb2 : Blok ((W1.alloc (.cells (askC ⟨0, 0, 0, 0, false, i.crn, i.op1, i.crm, i.op2, v, 1, u⟩).toArray 54)).drew) g _ _ := (hb'.alloc _).drewN 1
  have hA2 : Blok ((W1.alloc (.cells (askC ⟨0, 0, 0, 0, false, i.crn, i.op1, i.crm, i.op2, v, 1, u⟩).toArray 54)).drew) w.heap.size _ _ := (hA.alloc _).drewN 1
  have row2 : IsRow askC 12 54 ((W1.alloc (.cells (askC ⟨0, 0, 0, 0, false, i.crn, i.op1, i.crm, i.op2, v, 1, u⟩).toArray 54)).drew) va0 m.asked := row'.same (fun j q => Below.heap_alloc W1 _ j (row'.lt j q))
  have f0 : ∀ w', GrownS W1 w' (fun j => va0.ownBlock = some j) → w'.cell? ⟨g, 2, none⟩ = some va0 := fun w' k => (hb'.gs k na).cell 2
  have na2 : va0.ownBlock ≠ some w.heap.size := fun e => Nat.lt_irrefl _ (row.lt _ e)
  have y0 : ∀ w', GrownS W1 w' (fun j => va0.ownBlock = some j) → w'.cell? ⟨w.heap.size, 0, none⟩ = some (.int .i64 i.crn) := fun w' k => (hA.gs k na2).cell 0
  have y1 : ∀ w', GrownS W1 w' (fun j => va0.ownBlock = some j) → w'.cell? ⟨w.heap.size, 1, none⟩ = some (.int .i64 i.op1) := fun w' k => (hA.gs k na2).cell 1
  have y2 : ∀ w', GrownS W1 w' (fun j => va0.ownBlock = some j) → w'.cell? ⟨w.heap.size, 2, none⟩ = some (.int .i64 i.crm) := fun w' k => (hA.gs k na2).cell 2
  have y3 : ∀ w', GrownS W1 w' (fun j => va0.ownBlock = some j) → w'.cell? ⟨w.heap.size, 3, none⟩ = some (.int .i64 i.op2) := fun w' k => (hA.gs k na2).cell 3
  have hS0 : GrownS W1 W1.drew (fun j => va0.ownBlock = some j) := GrownS.drew _ _
  (refine hwalk_start (S := (fun w' => GrownS W1 w' (fun j => va0.ownBlock = some j))) 11 (by kernel_rfl) (by kernel_rfl) (by kernel_rfl) (by kernel_rfl) (by kernel_rfl) ?_; simp only [List.size_toArray, List.length_cons, List.length_nil, Nat.reduceAdd, Nat.reduceSub, Array.replicate_succ, Array.replicate_zero, List.push_toArray, List.nil_append, List.cons_append])
  (iterate 9 (refine hwalk_next (d := some _) (v := ?_) rfl rfl (by kernel_rfl) (by kernel_rfl) (by kernel_rfl) (fun _ _ _ h => h) (Or.inl ⟨by rfl, ?_⟩) (by with_reducible assumption) ?_; rotate_left 1; (· ((intro w hSw); (try dsimp only at hSw); first | (go_simp; done) | (go_simp; with_reducible rfl))); (try simp only [Act.put, List.setIfInBounds_toArray, List.set_cons_zero, List.set_cons_succ, Nat.reduceAdd, Nat.reduceSub])))
  refine hwalk_one (i := 9) rfl (by kernel_rfl) (by kernel_rfl) rfl (fun K hK => ?_)
  go_simp
  refine hK _ _ hS1 ?_
  clear hK K
  (try simp only [Act.put, List.setIfInBounds_toArray, List.set_cons_zero, List.set_cons_succ])
  change HWalk _ _ _ _ _ _ _ _ _ ((W1.alloc (.cells (askC ⟨0, 0, 0, 0, false, i.crn, i.op1, i.crm, i.op2, v, 1, u⟩).toArray 54)).drew)
  generalize (W1.alloc (.cells (askC ⟨0, 0, 0, 0, false, i.crn, i.op1, i.crm, i.op2, v, 1, u⟩).toArray 54)).drew = W2 at hq hS1 b2 s2 hb2 hA2 row2 ⊢
  refine hwalk_one (i := 10) rfl (by kernel_rfl) (by kernel_rfl) rfl (fun K hK => ?_)
  refine wp_append_el askC_len (by omega) ask_info rfl askC_one 46 Try.underlying46 (.tmp 14) (.tmp 19) rfl va0 m.asked rfl row2 ⟨0, 0, 0, 0, false, i.crn, i.op1, i.crm, i.op2, v, 1, u⟩ (w.heap.size + 1) 54 rfl hq (by unfold maxLen; omega) (by omega) ?_
  intro g' cap w3 row3 gr3 hat3
  refine hK _ _ (hS1.trans ((gsOwn gr3))) ?_
  clear hK K
  have hb3 := hb2.grown gr3 (fun e => na e.symm)
  have t3 : w3.cell? ⟨g, 2, none⟩ = some va0 := hb3.cell 2
  have f3 := hb3.frozen 2
  refine hwalk_done (by kernel_rfl) ?_
  simp only [Act.put, List.setIfInBounds_toArray, List.set_cons_zero, List.set_cons_succ, List.drop_succ_cons, List.drop_zero]
  obtain ⟨O1, hI4, G4, k4, e4⟩ := ASK.out _ w3 _ g' cap b2 row3 gr3 hat3 (Or.inl ⟨rfl, rfl⟩)
  have hA4 := hA2.at2 (e4 _ (Nat.le_refl _) (by omega))
  have k5 : ∀ j, O1 j → O j ∨ w.heap.size ≤ j := fun j q => (k4 j q).imp id (fun l => by omega)
  have MY := Lib.hid (fun w => lmay_is i u w)
  go_upto_region 2 with fail
  clear ASK hq hS0 hS1 b2 s2 hb2 hA2 row2 e4 k4 t3 f3 hb3 row3 gr3 hat3 f0 na2 y0 y1 y2 y3 hA hB hsz hb' row' row
  generalize w3.setCell ⟨g, 2, none⟩ (.slice (some ⟨g', 0, none⟩) (m.asked.length + 1) cap) = w4 at hI4 G4 hA4 ⊢
  have a0 : w4.cell? ⟨w.heap.size, 0, none⟩ = some (.int .i64 i.crn) := hA4.cell 0
  have a1 : w4.cell? ⟨w.heap.size, 1, none⟩ = some (.int .i64 i.op1) := hA4.cell 1
  have a2 : w4.cell? ⟨w.heap.size, 2, none⟩ = some (.int .i64 i.crm) := hA4.cell 2
  have a3 : w4.cell? ⟨w.heap.size, 3, none⟩ = some (.int .i64 i.op2) := hA4.cell 3
  have HR1 := Lib.hid (show R = ({ m with asked := m.asked ++ [⟨0, 0, 0, 0, false, i.crn, i.op1, i.crm, i.op2, v, 1, u⟩], cop := if mayI i.crn u = 0 then v else m.cop, room := m.room - 1 }, mayI i.crn u) from HR.out)
  clear HR
  generalize mayI i.crn u = my at MY HR1
  go_upto_region 3 with (go_at_call 124; (with_reducible refine (MY.out _).mono ?_); rintro e w5 ⟨rfl, b5⟩)
  have hI5 := hI4.keep (GrownS.ofBelow (S := fun _ => False) b5) (fun _ _ q => q)
  have G5 := G4.below b5
  obtain ⟨_, _, _, hb5, _⟩ := hI5.ex
  have c3 := hb5.cell 3
  have f3 := hb5.frozen 3
  simp only [List.getElem?_cons_zero, List.getElem?_cons_succ] at c3
  clear a0 a1 a2 a3 hA4 hI4 G4 b5
  by_cases e : my = 0
  · have LC := Lib.hid (line_cop hI5 v hv)
    have e1 := HR1.out
    rw [if_pos e] at e1
    have HF := Lib.hid e1
    clear e1 HR1
    go_wp2_with fail
    go_ret
    rw [HF.out]
    exact ⟨by simp [e], O1, LC.out.1, grownS_chain G5 LC.out.2 k5, k5⟩
  · have z : (my == 0) = false := by simp [e]
    have e1 := HR1.out
    rw [if_neg e] at e1
    have HF := Lib.hid e1
    clear e1 HR1
    go_wp2_with fail
    go_ret
    rw [HF.out]
    exact ⟨rfl, O1, hI5, G5, k5⟩
theorem Mrc_is (g : Nat) (m : LineM) (O : Nat → Prop) (i : Ins) (u : Bool) (hf : 0 < m.room) (w : World) (h : IsLine g m O w) :
    Calls Try.prog 122 #[.pointer (some ⟨g, 0, none⟩), .agg (tupCells i).toArray, .bool u] w
      (BusPost (IsLine g) O w (mrcLine m i u).1 (.tuple #[.int .u32 (mrcLine m i u).2.1, .int .i64 (mrcLine m i u).2.2])) := by
  have hx : (tupCells i).toArray = #[.int .i64 i.crn, .int .i64 i.op1, .int .i64 i.crm, .int .i64 i.op2] := rfl
  rw [hx]
  clear hx
  have hA : Blok (w.alloc (.cells #[.int .i64 i.crn, .int .i64 i.op1, .int .i64 i.crm, .int .i64 i.op2] 52)) w.heap.size 52 (tupCells i) := Blok.new w _ (tupCells i)
  have hB : Below w.heap.size w (w.alloc (.cells #[.int .i64 i.crn, .int .i64 i.op1, .int .i64 i.crm, .int .i64 i.op2] 52)) := (Below.refl _ _).alloc (Nat.le_refl _) _
  have hsz : (w.alloc (.cells #[.int .i64 i.crn, .int .i64 i.op1, .int .i64 i.crm, .int .i64 i.op2] 52)).heap.size = w.heap.size + 1 := by simp
  obtain ⟨R, hR⟩ : ∃ R, R = mrcLine m i u := ⟨_, rfl⟩
  rw [← hR]
  have HR := Lib.hid hR
  clear hR
  obtain ⟨vp0, vh0, va0, hb, na, row, ASK⟩ := line_ask h hf ⟨0, 0, 0, 0, false, i.crn, i.op1, i.crm, i.op2, 0, 2, u⟩ m.cop h.ok.cop
  have ASK := Lib.hid ASK
  have hask := h.ok.asks
  have hgl := hb.lt
  have hb' := hb.below hB hgl
  have row' := row.same (w' := (w.alloc (.cells #[.int .i64 i.crn, .int .i64 i.op1, .int .i64 i.crm, .int .i64 i.op2] 52))) (fun j q => hB.block j (row.lt j q))
  go_enter Try.func122, Try.ntmps122
  go_upto_region 1 with fail
  generalize w.alloc (.cells #[.int .i64 i.crn, .int .i64 i.op1, .int .i64 i.crm, .int .i64 i.op2] 52) = W1 at hA hB hsz hb' row' ⊢
  generalize Value.agg #[.int .i64 i.crn, .int .i64 i.op1, .int .i64 i.crm, .int .i64 i.op2] = vv
  have hq : Blok ((W1.alloc (.cells (askC ⟨0, 0, 0, 0, false, i.crn, i.op1, i.crm, i.op2, 0, 2, u⟩).toArray 54)).drew) (w.heap.size + 1) 54 (askC ⟨0, 0, 0, 0, false, i.crn, i.op1, i.crm, i.op2, 0, 2, u⟩) := by
    have := (Blok.new W1 54 (askC ⟨0, 0, 0, 0, false, i.crn, i.op1, i.crm, i.op2, 0, 2, u⟩)).drewN 1
    rwa [hsz] at this
  have hS1 : GrownS W1 ((W1.alloc (.cells (askC ⟨0, 0, 0, 0, false, i.crn, i.op1, i.crm, i.op2, 0, 2, u⟩).toArray 54)).drew) (fun j => va0.ownBlock = some j) := ((GrownS.refl _ _).alloc _).trans (GrownS.drew _ _)
  have b2 : Below w.heap.size w ((W1.alloc (.cells (askC ⟨0, 0, 0, 0, false, i.crn, i.op1, i.crm, i.op2, 0, 2, u⟩).toArray 54)).drew) := bdrew (hB.alloc hB.size _)
  have s2 : ((W1.alloc (.cells (askC ⟨0, 0, 0, 0, false, i.crn, i.op1, i.crm, i.op2, 0, 2, u⟩).toArray 54)).drew).heap.size = w.heap.size + 1 + 1 := by
    show (W1.alloc _).heap.size = _
    rw [← hsz]; simp
  have hb2 : Blok ((W1.alloc (.cells (askC ⟨0, 0, 0, 0, false, i.crn, i.op1, i.crm, i.op2, 0, 2, u⟩).toArray 54)).drew) g _ _ := (hb'.alloc _).drewN 1
  have hA2 : Blok ((W1.alloc (.cells (askC ⟨0, 0, 0, 0, false, i.crn, i.op1, i.crm, i.op2, 0, 2, u⟩).toArray 54)).drew) w.heap.size _ _ := (hA.alloc _).drewN 1
  have row2 : IsRow askC 12 54 ((W1.alloc (.cells (askC ⟨0, 0, 0, 0, false, i.crn, i.op1, i.crm, i.op2, 0, 2, u⟩).toArray 54)).drew) va0 m.asked := row'.same (fun j q => Below.heap_alloc W1 _ j (row'.lt j q))
  have f0 : ∀ w', GrownS W1 w' (fun j => va0.ownBlock = some j) → w'.cell? ⟨g, 2, none⟩ = some va0 := fun w' k => (hb'.gs k na).cell 2
  have na2 : va0.ownBlock ≠ some w.heap.size := fun e => Nat.lt_irrefl _ (row.lt _ e)
  have y0 : ∀ w', GrownS W1 w' (fun j => va0.ownBlock = some j) → w'.cell? ⟨w.heap.size, 0, none⟩ = some (.int .i64 i.crn) := fun w' k => (hA.gs k na2).cell 0
  have y1 : ∀ w', GrownS W1 w' (fun j => va0.ownBlock = some j) → w'.cell? ⟨w.heap.size, 1, none⟩ = some (.int .i64 i.op1) := fun w' k => (hA.gs k na2).cell 1
  have y2 : ∀ w', GrownS W1 w' (fun j => va0.ownBlock = some j) → w'.cell? ⟨w.heap.size, 2, none⟩ = some (.int .i64 i.crm) := fun w' k => (hA.gs k na2).cell 2
  have y3 : ∀ w', GrownS W1 w' (fun j => va0.ownBlock = some j) → w'.cell? ⟨w.heap.size, 3, none⟩ = some (.int .i64 i.op2) := fun w' k => (hA.gs k na2).cell 3
  have hS0 : GrownS W1 W1.drew (fun j => va0.ownBlock = some j) := GrownS.drew _ _
  (refine hwalk_start (S := (fun w' => GrownS W1 w' (fun j => va0.ownBlock = some j))) 10 (by kernel_rfl) (by kernel_rfl) (by kernel_rfl) (by kernel_rfl) (by kernel_rfl) ?_; simp only [List.size_toArray, List.length_cons, List.length_nil, Nat.reduceAdd, Nat.reduceSub, Array.replicate_succ, Array.replicate_zero, List.push_toArray, List.nil_append, List.cons_append])
  (iterate 8 (refine hwalk_next (d := some _) (v := ?_) rfl rfl (by kernel_rfl) (by kernel_rfl) (by kernel_rfl) (fun _ _ _ h => h) (Or.inl ⟨by rfl, ?_⟩) (by with_reducible assumption) ?_; rotate_left 1; (· ((intro w hSw); (try dsimp only at hSw); first | (go_simp; done) | (go_simp; with_reducible rfl))); (try simp only [Act.put, List.setIfInBounds_toArray, List.set_cons_zero, List.set_cons_succ, Nat.reduceAdd, Nat.reduceSub])))
  refine hwalk_one (i := 8) rfl (by kernel_rfl) (by kernel_rfl) rfl (fun K hK => ?_)
  go_simp
  refine hK _ _ hS1 ?_
  clear hK K
  (try simp only [Act.put, List.setIfInBounds_toArray, List.set_cons_zero, List.set_cons_succ])
  change HWalk _ _ _ _ _ _ _ _ _ ((W1.alloc (.cells (askC ⟨0, 0, 0, 0, false, i.crn, i.op1, i.crm, i.op2, 0, 2, u⟩).toArray 54)).drew)
  generalize (W1.alloc (.cells (askC ⟨0, 0, 0, 0, false, i.crn, i.op1, i.crm, i.op2, 0, 2, u⟩).toArray 54)).drew = W2 at hq hS1 b2 s2 hb2 hA2 row2 ⊢
  refine hwalk_one (i := 9) rfl (by kernel_rfl) (by kernel_rfl) rfl (fun K hK => ?_)
  refine wp_append_el askC_len (by omega) ask_info rfl askC_one 46 Try.underlying46 (.tmp 13) (.tmp 17) rfl va0 m.asked rfl row2 ⟨0, 0, 0, 0, false, i.crn, i.op1, i.crm, i.op2, 0, 2, u⟩ (w.heap.size + 1) 54 rfl hq (by unfold maxLen; omega) (by omega) ?_
  intro g' cap w3 row3 gr3 hat3
  refine hK _ _ (hS1.trans ((gsOwn gr3))) ?_
  clear hK K
  have hb3 := hb2.grown gr3 (fun e => na e.symm)
  have t3 : w3.cell? ⟨g, 2, none⟩ = some va0 := hb3.cell 2
  have f3 := hb3.frozen 2
  refine hwalk_done (by kernel_rfl) ?_
  simp only [Act.put, List.setIfInBounds_toArray, List.set_cons_zero, List.set_cons_succ, List.drop_succ_cons, List.drop_zero]
  obtain ⟨O1, hI4, G4, k4, e4⟩ := ASK.out _ w3 _ g' cap b2 row3 gr3 hat3 (Or.inl ⟨rfl, rfl⟩)
  have hA4 := hA2.at2 (e4 _ (Nat.le_refl _) (by omega))
  have k5 : ∀ j, O1 j → O j ∨ w.heap.size ≤ j := fun j q => (k4 j q).imp id (fun l => by omega)
  have MY := Lib.hid (fun w => lmay_is i u w)
  go_upto_region 2 with fail
  clear ASK hq hS0 hS1 b2 s2 hb2 hA2 row2 e4 k4 t3 f3 hb3 row3 gr3 hat3 f0 na2 y0 y1 y2 y3 hA hB hsz hb' row' row
  generalize w3.setCell ⟨g, 2, none⟩ (.slice (some ⟨g', 0, none⟩) (m.asked.length + 1) cap) = w4 at hI4 G4 hA4 ⊢
  have a0 : w4.cell? ⟨w.heap.size, 0, none⟩ = some (.int .i64 i.crn) := hA4.cell 0
  have a1 : w4.cell? ⟨w.heap.size, 1, none⟩ = some (.int .i64 i.op1) := hA4.cell 1
  have a2 : w4.cell? ⟨w.heap.size, 2, none⟩ = some (.int .i64 i.crm) := hA4.cell 2
  have a3 : w4.cell? ⟨w.heap.size, 3, none⟩ = some (.int .i64 i.op2) := hA4.cell 3
  have HR1 := Lib.hid (show R = ({ m with asked := m.asked ++ [⟨0, 0, 0, 0, false, i.crn, i.op1, i.crm, i.op2, 0, 2, u⟩], room := m.room - 1 }, if mayI i.crn u = 0 then bits .or .u32 (m.cop * 16 % 4294967296) (m.cop / 268435456) else 0, mayI i.crn u) from HR.out)
  clear HR
  generalize mayI i.crn u = my at MY HR1
  go_upto_region 3 with (go_at_call 124; (with_reducible refine (MY.out _).mono ?_); rintro e w5 ⟨rfl, b5⟩)
  have hI5 := hI4.keep (GrownS.ofBelow (S := fun _ => False) b5) (fun _ _ q => q)
  have G5 := G4.below b5
  obtain ⟨_, _, _, hb5, _⟩ := hI5.ex
  have c3 := hb5.cell 3
  simp only [List.getElem?_cons_zero, List.getElem?_cons_succ] at c3
  clear a0 a1 a2 a3 hA4 hI4 G4 b5
  by_cases e : my = 0
  · have e1 := HR1.out
    rw [if_pos e] at e1
    have HF := Lib.hid e1
    clear e1 HR1
    go_wp2_with fail
    go_quiet (fail)
    go_wp2
    go_ret2
    rw [HF.out]
    exact ⟨by simp [e], O1, hI5.keep (GrownS.drewN _ (fun _ => False) nq) (fun _ _ q => q), G5.trans (GrownS.drewN _ _ nq), k5⟩
  · have z : (my != 0) = true := by simp [e]
    have e1 := HR1.out
    rw [if_neg e] at e1
    have HF := Lib.hid e1
    clear e1 HR1
    go_wp2_with fail
    go_ret2
    rw [HF.out]
    exact ⟨rfl, O1, hI5, G5, k5⟩
end Go.Proofs.Ytpfhplhamnohjaa
namespace Go.Proofs.Ytpfhplhamnohjaa
open Go.RowKit

theorem lineNil (g : Nat) (w : World) : Sem.run Try.prog (nilAhead 283 33 (.pointer (some ⟨g, 0, none⟩)) "Access") w = .ok (some false) w := by kernel_rfl
theorem line_val (m : LineM) (kind va n v : Int) (p : Bool) : 0 ≤ (accLine m kind va n v p).2.val ∧ (accLine m kind va n v p).2.val < 4294967296 := by
  unfold accLine
  dsimp only
  split
  · rw [faultI_val]; omega
  · split
    · show (0 : Int) ≤ 0 ∧ (0 : Int) < 4294967296
      omega
    · exact bits32 .and _ _
theorem lineBus (g : Nat) : BusLaw 33 (.pointer (some ⟨g, 0, none⟩)) (IsLine g) lineF 120 121 122 where
  mA := fun _ => by kernel_rfl
  mC := fun _ => by kernel_rfl
  mR := fun _ => by kernel_rfl
  cA := fun _ _ => by kernel_rfl
  cC := fun _ _ _ _ => by kernel_rfl
  cR := fun _ _ _ => by kernel_rfl
  old := fun _ _ _ j h => h.old j
  keep := fun _ _ _ _ _ h => h.keep
  acc := fun m O w kind va n v p hva _ _ hn hf h => Access_is g m O kind va n v p hva hn hf w h
  mcr := fun m O w i v u hv hf h => Mcr_is g m O i v u hv hf w h
  mrc := fun m O w i u hf h => Mrc_is g m O i u hf w h
  val := line_val
  spent := fun m kind va n v p => by
    show m.room ≤ (accLine m kind va n v p).1.room + 1
    unfold accLine
    dsimp only
    split
    · dsimp only; omega
    · split <;> (dsimp only; omega)
  spentC := fun m i v u => by
    show m.room ≤ m.room - 1 + 1
    omega
  spentR := fun m i u => by
    show m.room ≤ m.room - 1 + 1
    omega
  got := fun m i u => by
    show 0 ≤ (mrcLine m i u).2.1 ∧ (mrcLine m i u).2.1 < 4294967296
    unfold mrcLine
    dsimp only
    split
    · exact bits32 .or _ _
    · omega
theorem lineStep (g : Nat) (m : LineM) (O : Nat → Prop) (s : Sta) (on : Bool) (gc : Nat) (tc : TypeId) (hs : OkS s) (W : World) (hc : Blok W gc tc (cpuCells s on)) (hI : IsLine g m O W) (hg : ¬ O gc) (hf : 17 ≤ m.room) :
    Calls Try.prog 13 #[.pointer (some ⟨gc, 0, none⟩), .iface 33 (.pointer (some ⟨g, 0, none⟩))] W (StepPost (IsLine g) O W gc tc on (stepO lineF m s on)) :=
  Step_is (lineBus g) (lineNil g) m O s on gc tc hs W hc hI hg hf
end Go.Proofs.Ytpfhplhamnohjaa
namespace Go.Proofs.Ytpfhplhamnohjaa
set_option maxHeartbeats 25600000
set_option maxRecDepth 100000
open Go.RowKit

/-- a row that came in -/
def ArgRow {α : Type} (f : α → List Value) (w : World) (v : Value) (xs : List α) : Prop :=
  (v = .slice none 0 0 ∧ xs = []) ∨ ∃ ad c, v = .slice (some ad) xs.length c ∧ ∀ j y, (xs.flatMap f)[j]? = some y → w.cell? (ad.add j) = some y
theorem ArgRow.below {α : Type} {f : α → List Value} {w w' : World} {v : Value} {xs : List α} (h : ArgRow f w v xs) (b : Below w.heap.size w w') : ArgRow f w' v xs := by
  rcases h with a | ⟨ad, c, e, hc⟩
  · exact .inl a
  · refine .inr ⟨ad, c, e, fun j y hy => ?_⟩
    have q := hc j y hy
    exact (b.cell (World.block_lt_of_cell? w _ q)).trans q
theorem wpList_append_all {α : Type} {f : α → List Value} {k b : Nat} {e : TypeId} {z : Value} (hk : ∀ x, (f x).length = k) (h0 : 0 < k) (hinfo : (Try.prog.info? e).map (fun i => (i.zero, i.size, i.bytes)) = some (some z, k, b)) (hz : z.cells.size = k) (h1 : ∀ x, (f x).all (·.oneCell') = true) (t : TypeId) (ht : Try.prog.underlying t = some (.slice e))
    {w : World} {ops : Array Oper} {rest : List Oper} {o : Oper} {a : Act} {Q : Exit → Act → World → Prop} (hgd : o.guard = none) (s x : Operand)
    (ho : o.op = .call { callee := .builtin .append, args := #[s, x], argTypes := #[t, t] }) (hs : a.eval s = .slice none 0 0) (xs : List α) (v : Value) (hx : a.eval x = v) (hv : ArgRow f w v xs)
    (h63 : xs.length ≤ maxLen) (hb : (xs.length + xs.length / 4 + 192) * b ≤ 281474976710656)
    (h : ∀ v' w', IsRow f k e w' v' xs → Below w.heap.size w w' → (∀ j, v'.ownBlock = some j → w.heap.size ≤ j) → (v' = .slice none 0 0 ∨ ∃ g cap, v' = .slice (some ⟨g, 0, none⟩) xs.length cap) → wpList Try.prog ops Q rest (a.put o.dst v') w') : wpList Try.prog ops Q (o :: rest) a w := by
  obtain ⟨i, hi, hz', hsz, hby⟩ := info_of hinfo
  have own0 : w.ownsRow 0 e k (.slice none 0 0) 0 [] := World.ownsRow_nil w 0 e k
  rcases hv with ⟨rfl, rfl⟩ | ⟨ad, c, rfl, hc⟩
  · exact wpList_append_own_none hgd s x t ho 0 e i k ht hi _ 0 [] hs own0 hx (h _ w own0 (Below.refl _ _) (fun j q => by cases q) (.inl rfl))
  · have hone : ∀ y ∈ xs.flatMap f, y.oneCell' = true := fun y hy => by
      obtain ⟨q, _, hq⟩ := List.mem_flatMap.1 hy
      exact one_mem (h1 q) y hq
    have hl := flat_len f k hk xs
    obtain ⟨v', w', hr, h2, h3, h4⟩ := run_append_own_wide (P := Try.prog) w 0 t o.type e i z k b ht hi hz' hsz hby hz h0 _ 0 [] own0 ad xs.length c (xs.flatMap f) hl hc hone (by omega) (by rw [Nat.zero_add]; exact hb) (Nat.zero_le _)
    rw [Nat.zero_add, List.nil_append] at h2
    have hB : Below w.heap.size w w' := ⟨h3.os, h3.tape, h3.output, h3.size, fun j hj => h3.block j hj (by simp [Value.ownBlock])⟩
    have hn : ∀ j, v'.ownBlock = some j → w.heap.size ≤ j := by
      intro j hj
      rcases Nat.eq_zero_or_pos xs.length with e0 | e0
      · have : v' = .slice none 0 0 := h4.2 ⟨rfl, e0⟩
        rw [this] at hj; cases hj
      · obtain ⟨g, cap, w2, hr2, _, _, hat, _⟩ := run_append_row (P := Try.prog) w 0 t o.type e i z k b ht hi hz' hsz hby hz h0 _ 0 [] own0 ad xs.length c e0 (xs.flatMap f) hl hc hone (by omega) (by rw [Nat.zero_add]; exact hb) (Nat.zero_le _)
        rw [hr] at hr2
        simp only [Result.ok.injEq] at hr2
        rw [hr2.1] at hj
        have : g = j := Option.some.inj hj
        rcases hat with q | q
        · cases q
        · omega
    refine wpList_plain hgd fun K hK => ?_
    unfold Oper.wp execOp
    simp only [ho, resolve, invoke, builtin, Sem.run_bind, Sem.run_pure, Result.andThen_ok, List.map_toArray, List.map_cons, List.map_nil, hs, hx, hr]
    have R : IsRow f k e w' v' xs := h2
    exact hK _ _ (h v' w' R hB hn (R.form.imp (fun a => a.1) id))
theorem holC_one (q : Hol) : (holC q).all (·.oneCell') = true := rfl
theorem NewLine_is (puts : List (Int × Int)) (holes : List Hol) (vp vh : Value) (room : Nat) (hp : ∀ p ∈ puts, (0 ≤ p.1 ∧ p.1 < 4294967296) ∧ (0 ≤ p.2 ∧ p.2 < 4294967296)) (hh : ∀ h ∈ holes, (0 ≤ h.lo ∧ h.lo < 4294967296) ∧ (0 ≤ h.hi ∧ h.hi < 4294967296))
    (lp : puts.length ≤ 17592186044416) (lh : holes.length ≤ 4398046511104) (hr : room ≤ 1099511627776) (w : World) (ap : ArgRow putC w vp puts) (ah : ArgRow holC w vh holes) :
    Calls Try.prog 12 #[vp, vh] w fun e w' => ∃ g O, e = .returned (.pointer (some ⟨g, 0, none⟩)) ∧ IsLine g ⟨puts, holes, [], 0, room⟩ O w' ∧ Below w.heap.size w w' ∧ ∀ j, O j → w.heap.size ≤ j := by
  have hL := Blok.new w 48 [.slice none 0 0, .slice none 0 0, .slice none 0 0, .int .u32 0]
  have hB : Below w.heap.size w (w.alloc (.cells #[.slice none 0 0, .slice none 0 0, .slice none 0 0, .int .u32 0] 48)) := (Below.refl _ _).alloc (Nat.le_refl _) _
  change Blok (w.alloc (.cells #[.slice none 0 0, .slice none 0 0, .slice none 0 0, .int .u32 0] 48)) w.heap.size _ _ at hL
  go_enter Try.func12, Try.ntmps12
  go_upto_region 2 with fail
  generalize w.alloc (.cells #[.slice none 0 0, .slice none 0 0, .slice none 0 0, .int .u32 0] 48) = w1 at hL hB ⊢
  have hgl := hL.lt
  have l0 : w1.cell? ⟨w.heap.size, 0, none⟩ = some (.slice none 0 0) := hL.cell 0
  have ap1 := ap.below hB
  go_upto_region 3 with (refine wpList_append_all putC_len (by omega) put_info rfl putC_one 27 Try.underlying27 rfl (.tmp 12) (.tmp 13) rfl rfl puts vp rfl ap1 (by unfold maxLen; omega) (by omega) ?_; intro v2 w2 r2 b2 n2 e2; have hL2 := hL.below b2 hgl; have t2 : w2.cell? ⟨w.heap.size, 0, none⟩ = some (.slice none 0 0) := hL2.cell 0; have f2 := hL2.frozen 0; rcases e2 with rfl | ⟨g2, c2, rfl⟩)
  · have r3 := r2.same (w' := w2.setCell ⟨w.heap.size, 0, none⟩ (.slice none 0 0)) (fun j q => Below.heap_setCell _ _ _ j (fun e => by have := n2 j q; simp at e; omega))
    have L3 := hL2.set_ 0 (.slice none 0 0)
    have b3 : Below w.heap.size w (w2.setCell ⟨w.heap.size, 0, none⟩ (.slice none 0 0)) := bgrow (bthen hB b2) (grown_one _ _ _ _) (Nat.le_refl _)
    have s3 : w2.heap.size = (w2.setCell ⟨w.heap.size, 0, none⟩ (.slice none 0 0)).heap.size := by simp [World.setCell]
    have n3 := n2
    have r3z := r2.lt
    generalize w2.setCell ⟨w.heap.size, 0, none⟩ (.slice none 0 0) = w3 at r3 L3 b3 s3 ⊢
    have hb2 := b2.size
    clear hL2 t2 f2 r2 b2 n2 l0 ap1
    have l1 : w3.cell? ⟨w.heap.size, 1, none⟩ = some (.slice none 0 0) := L3.cell 1
    have ah3 := ah.below b3
    go_wp2_with (refine wpList_append_all holC_len (by omega) hole_info rfl holC_one 28 Try.underlying28 rfl (.tmp 21) (.tmp 22) rfl rfl holes vh rfl ah3 (by unfold maxLen; omega) (by omega) ?_; intro v5 w5 r5 b5 n5 e5; have hL5 := L3.below b5 L3.lt; have t5 : w5.cell? ⟨w.heap.size, 1, none⟩ = some (.slice none 0 0) := hL5.cell 1; have f5 := hL5.frozen 1; rcases e5 with rfl | ⟨g5, c5, rfl⟩)
    · go_ret
      have L6 := hL5.set_ 1 (.slice none 0 0)
      have r6 := r5.same (w' := w5.setCell ⟨w.heap.size, 1, none⟩ (.slice none 0 0)) (fun j q => Below.heap_setCell _ _ _ j (fun e => by have := n5 j q; have := L3.lt; simp at e; omega))
      have r7 := (r3.same (w' := w5) (fun j q => b5.block j (r3.lt j q))).same (w' := w5.setCell ⟨w.heap.size, 1, none⟩ (.slice none 0 0)) (fun j q => Below.heap_setCell _ _ _ j (fun e => by have := n3 j q; simp at e; omega))
      refine ⟨w.heap.size, fun j => j = w.heap.size ∨ (.slice none 0 0 : Value).ownBlock = some j ∨ (.slice none 0 0 : Value).ownBlock = some j ∨ (Value.slice none 0 0).ownBlock = some j, rfl, ⟨⟨hp, hh, by dsimp only; omega, by dsimp only [List.length_nil]; omega, by dsimp only; omega⟩, .slice none 0 0, .slice none 0 0, .slice none 0 0, L6, r7, r6, World.ownsRow_nil _ 0 _ _, fun j => Iff.rfl, fun q => by have := n3 _ q; omega, fun q => by have := n5 _ q; have := L3.lt; omega, (fun q => by cases q), fun j q => ⟨fun r => by have := n5 j r; have := r3.lt j q; omega, (fun r => by cases r)⟩, (fun j q r => by cases r)⟩, bgrow (b3.trans (b5.mono b3.size)) (grown_one _ _ _ _) (Nat.le_refl _), ?_⟩
      rintro j (q | q | q | q)
      · omega
      · have := n3 j q; omega
      · have := n5 j q; have := b3.size; omega
      · cases q
    · go_ret
      have L6 := hL5.set_ 1 (.slice (some ⟨g5, 0, none⟩) holes.length c5)
      have r6 := r5.same (w' := w5.setCell ⟨w.heap.size, 1, none⟩ (.slice (some ⟨g5, 0, none⟩) holes.length c5)) (fun j q => Below.heap_setCell _ _ _ j (fun e => by have := n5 j q; have := L3.lt; simp at e; omega))
      have r7 := (r3.same (w' := w5) (fun j q => b5.block j (r3.lt j q))).same (w' := w5.setCell ⟨w.heap.size, 1, none⟩ (.slice (some ⟨g5, 0, none⟩) holes.length c5)) (fun j q => Below.heap_setCell _ _ _ j (fun e => by have := n3 j q; simp at e; omega))
      refine ⟨w.heap.size, fun j => j = w.heap.size ∨ (.slice none 0 0 : Value).ownBlock = some j ∨ (.slice (some ⟨g5, 0, none⟩) holes.length c5 : Value).ownBlock = some j ∨ (Value.slice none 0 0).ownBlock = some j, rfl, ⟨⟨hp, hh, by dsimp only; omega, by dsimp only [List.length_nil]; omega, by dsimp only; omega⟩, .slice none 0 0, .slice (some ⟨g5, 0, none⟩) holes.length c5, .slice none 0 0, L6, r7, r6, World.ownsRow_nil _ 0 _ _, fun j => Iff.rfl, fun q => by have := n3 _ q; omega, fun q => by have := n5 _ q; have := L3.lt; omega, (fun q => by cases q), fun j q => ⟨fun r => by have := n5 j r; have := r3.lt j q; omega, (fun r => by cases r)⟩, (fun j q r => by cases r)⟩, bgrow (b3.trans (b5.mono b3.size)) (grown_one _ _ _ _) (Nat.le_refl _), ?_⟩
      rintro j (q | q | q | q)
      · omega
      · have := n3 j q; omega
      · have := n5 j q; have := b3.size; omega
      · cases q
  · have r3 := r2.same (w' := w2.setCell ⟨w.heap.size, 0, none⟩ (.slice (some ⟨g2, 0, none⟩) puts.length c2)) (fun j q => Below.heap_setCell _ _ _ j (fun e => by have := n2 j q; simp at e; omega))
    have L3 := hL2.set_ 0 (.slice (some ⟨g2, 0, none⟩) puts.length c2)
    have b3 : Below w.heap.size w (w2.setCell ⟨w.heap.size, 0, none⟩ (.slice (some ⟨g2, 0, none⟩) puts.length c2)) := bgrow (bthen hB b2) (grown_one _ _ _ _) (Nat.le_refl _)
    have s3 : w2.heap.size = (w2.setCell ⟨w.heap.size, 0, none⟩ (.slice (some ⟨g2, 0, none⟩) puts.length c2)).heap.size := by simp [World.setCell]
    have n3 := n2
    have r3z := r2.lt
    generalize w2.setCell ⟨w.heap.size, 0, none⟩ (.slice (some ⟨g2, 0, none⟩) puts.length c2) = w3 at r3 L3 b3 s3 ⊢
    have hb2 := b2.size
    clear hL2 t2 f2 r2 b2 n2 l0 ap1
    have l1 : w3.cell? ⟨w.heap.size, 1, none⟩ = some (.slice none 0 0) := L3.cell 1
    have ah3 := ah.below b3
    go_wp2_with (refine wpList_append_all holC_len (by omega) hole_info rfl holC_one 28 Try.underlying28 rfl (.tmp 21) (.tmp 22) rfl rfl holes vh rfl ah3 (by unfold maxLen; omega) (by omega) ?_; intro v5 w5 r5 b5 n5 e5; have hL5 := L3.below b5 L3.lt; have t5 : w5.cell? ⟨w.heap.size, 1, none⟩ = some (.slice none 0 0) := hL5.cell 1; have f5 := hL5.frozen 1; rcases e5 with rfl | ⟨g5, c5, rfl⟩)
    · go_ret
      have L6 := hL5.set_ 1 (.slice none 0 0)
      have r6 := r5.same (w' := w5.setCell ⟨w.heap.size, 1, none⟩ (.slice none 0 0)) (fun j q => Below.heap_setCell _ _ _ j (fun e => by have := n5 j q; have := L3.lt; simp at e; omega))
      have r7 := (r3.same (w' := w5) (fun j q => b5.block j (r3.lt j q))).same (w' := w5.setCell ⟨w.heap.size, 1, none⟩ (.slice none 0 0)) (fun j q => Below.heap_setCell _ _ _ j (fun e => by have := n3 j q; simp at e; omega))
      refine ⟨w.heap.size, fun j => j = w.heap.size ∨ (.slice (some ⟨g2, 0, none⟩) puts.length c2 : Value).ownBlock = some j ∨ (.slice none 0 0 : Value).ownBlock = some j ∨ (Value.slice none 0 0).ownBlock = some j, rfl, ⟨⟨hp, hh, by dsimp only; omega, by dsimp only [List.length_nil]; omega, by dsimp only; omega⟩, .slice (some ⟨g2, 0, none⟩) puts.length c2, .slice none 0 0, .slice none 0 0, L6, r7, r6, World.ownsRow_nil _ 0 _ _, fun j => Iff.rfl, fun q => by have := n3 _ q; omega, fun q => by have := n5 _ q; have := L3.lt; omega, (fun q => by cases q), fun j q => ⟨fun r => by have := n5 j r; have := r3.lt j q; omega, (fun r => by cases r)⟩, (fun j q r => by cases r)⟩, bgrow (b3.trans (b5.mono b3.size)) (grown_one _ _ _ _) (Nat.le_refl _), ?_⟩
      rintro j (q | q | q | q)
      · omega
      · have := n3 j q; omega
      · have := n5 j q; have := b3.size; omega
      · cases q
    · go_ret
      have L6 := hL5.set_ 1 (.slice (some ⟨g5, 0, none⟩) holes.length c5)
      have r6 := r5.same (w' := w5.setCell ⟨w.heap.size, 1, none⟩ (.slice (some ⟨g5, 0, none⟩) holes.length c5)) (fun j q => Below.heap_setCell _ _ _ j (fun e => by have := n5 j q; have := L3.lt; simp at e; omega))
      have r7 := (r3.same (w' := w5) (fun j q => b5.block j (r3.lt j q))).same (w' := w5.setCell ⟨w.heap.size, 1, none⟩ (.slice (some ⟨g5, 0, none⟩) holes.length c5)) (fun j q => Below.heap_setCell _ _ _ j (fun e => by have := n3 j q; simp at e; omega))
      refine ⟨w.heap.size, fun j => j = w.heap.size ∨ (.slice (some ⟨g2, 0, none⟩) puts.length c2 : Value).ownBlock = some j ∨ (.slice (some ⟨g5, 0, none⟩) holes.length c5 : Value).ownBlock = some j ∨ (Value.slice none 0 0).ownBlock = some j, rfl, ⟨⟨hp, hh, by dsimp only; omega, by dsimp only [List.length_nil]; omega, by dsimp only; omega⟩, .slice (some ⟨g2, 0, none⟩) puts.length c2, .slice (some ⟨g5, 0, none⟩) holes.length c5, .slice none 0 0, L6, r7, r6, World.ownsRow_nil _ 0 _ _, fun j => Iff.rfl, fun q => by have := n3 _ q; omega, fun q => by have := n5 _ q; have := L3.lt; omega, (fun q => by cases q), fun j q => ⟨fun r => by have := n5 j r; have := r3.lt j q; omega, (fun r => by cases r)⟩, (fun j q r => by cases r)⟩, bgrow (b3.trans (b5.mono b3.size)) (grown_one _ _ _ _) (Nat.le_refl _), ?_⟩
      rintro j (q | q | q | q)
      · omega
      · have := n3 j q; omega
      · have := n5 j q; have := b3.size; omega
      · cases q
end Go.Proofs.Ytpfhplhamnohjaa
