/- Layer 20: the law's alike, of two lines that hold the same. -/
import Derived.Test.YtpfhplhamnohjaaG17
namespace Go.Proofs.Ytpfhplhamnohjaa
open Go.RowKit

set_option linter.unusedSimpArgs false
/-- a slice of so many, made or nil -/
def LenIs (v : Value) (n : Nat) : Prop := (v = .slice none 0 0 ∧ n = 0) ∨ ∃ g c, v = .slice (some ⟨g, 0, none⟩) n c
theorem IsRow.len {α : Type} {f : α → List Value} {k : Nat} {e : TypeId} {w : World} {v : Value} {xs : List α} (h : IsRow f k e w v xs) : LenIs v xs.length := by
  rcases h.form with ⟨a, b⟩ | ⟨g, c, e⟩
  · exact .inl ⟨a, by rw [b]; rfl⟩
  · exact .inr ⟨g, c, e⟩
theorem run_len {P : Program} {o : Oper} {a : Act} {w : World} {v : Value} {n : Nat} {t : TypeId} (x : Operand) (ho : o.op = .call { callee := .builtin .len, args := #[x], argTypes := #[t] }) (hx : a.eval x = v) (hv : LenIs v n) (d : TypeDesc) (ht : P.underlying t = some d) (hd : ∃ e, d = .slice e) :
    (execOp a.eval o).run P w = .ok (.value (.int .i64 n)) w := by
  obtain ⟨e, rfl⟩ := hd
  unfold execOp
  simp only [ho, resolve, invoke, builtin, Sem.run_bind, Sem.run_pure, Result.andThen_ok, List.map_toArray, List.map_cons, List.map_nil, hx]
  rcases hv with ⟨rfl, rfl⟩ | ⟨g, c, rfl⟩ <;> simp [Builtin.len_, run_underlying ht] <;> rfl
theorem wpQuiet_len {P : Program} {ops : Array Oper} {C : World → Prop} {Q : Act → Prop} {o : Oper} {rest : List Oper} {a : Act} {v : Value} {n : Nat} {t : TypeId} (hw : Region.wanted o (yielded ops a.tmps) = true) (x : Operand) (ho : o.op = .call { callee := .builtin .len, args := #[x], argTypes := #[t] }) (hx : a.eval x = v) (hv : LenIs v n) (d : TypeDesc) (ht : P.underlying t = some d) (hd : ∃ e, d = .slice e)
    (h : wpQuiet P ops C Q rest (a.put o.dst (.int .i64 n))) : wpQuiet P ops C Q (o :: rest) a := by
  refine BigFrame.wpQuiet_want hw (fun K hK => ⟨.int .i64 n, fun w hC => ?_, hK _ h⟩)
  unfold Oper.quietAt
  rw [run_len x ho hx hv d ht hd]
  exact ⟨rfl, rfl⟩
theorem wpList_len {P : Program} {ops : Array Oper} {rest : List Oper} {o : Oper} {a : Act} {w : World} {Q : Exit → Act → World → Prop} {v : Value} {n : Nat} {t : TypeId} (hgd : o.guard = none) (x : Operand) (ho : o.op = .call { callee := .builtin .len, args := #[x], argTypes := #[t] }) (hx : a.eval x = v) (hv : LenIs v n) (d : TypeDesc) (ht : P.underlying t = some d) (hd : ∃ e, d = .slice e)
    (h : wpList P ops Q rest (a.put o.dst (.int .i64 n)) w) : wpList P ops Q (o :: rest) a w := by
  refine wpList_plain hgd fun K hK => ?_
  unfold Oper.wp
  rw [run_len x ho hx hv d ht hd]
  exact hK _ _ h
set_option maxHeartbeats 1600000 in
theorem eqIn_ask (d : Nat) (q : Ask) (w : World) : (Op.equalIn (d + 5) 54 (.agg (askC q).toArray) (.agg (askC q).toArray)).run Try.prog w = .ok true w := by
  unfold askC
  simp [go_sem]
theorem neq_ask (q : Ask) (w : World) : (binOp .neq 54 (.agg (askC q).toArray) (.agg (askC q).toArray)).run Try.prog w = .ok (.bool false) w := by
  rw [run_neq_struct, eqIn_ask 9995]; rfl
theorem eqIn_put (d : Nat) (q : Int × Int) (w : World) : (Op.equalIn (d + 5) 69 (.agg (putC q).toArray) (.agg (putC q).toArray)).run Try.prog w = .ok true w := by
  unfold putC
  simp [go_sem]
theorem neq_put (q : Int × Int) (w : World) : (binOp .neq 69 (.agg (putC q).toArray) (.agg (putC q).toArray)).run Try.prog w = .ok (.bool false) w := by
  rw [run_neq_struct, eqIn_put 9995]; rfl
theorem IsRow.range {α : Type} {f : α → List Value} {k : Nat} {e : TypeId} {w : World} {xs : List α} {g cap : Nat} (h : IsRow f k e w (.slice (some ⟨g, 0, none⟩) xs.length cap) xs) (hk : ∀ x, (f x).length = k) (i : Nat) (x : α) (hx : xs[i]? = some x) : w.rangeAt g (i * k) (f x) := fun j v hv => by
  have hj : j < k := by have := (List.getElem?_eq_some_iff.1 hv).1; rw [hk] at this; exact this
  rw [h.cell hk i j x hx hj]; exact hv
theorem IsRow.below {α : Type} {f : α → List Value} {k : Nat} {e : TypeId} {w w' : World} {v : Value} {xs : List α} (h : IsRow f k e w v xs) (b : Below w.heap.size w w') : IsRow f k e w' v xs := h.same (fun j q => b.block j (h.lt j q))
theorem ask_size : (Try.prog.info? 54).map (·.size) = some 12 := by kernel_rfl
theorem put_size : (Try.prog.info? 69).map (·.size) = some 2 := by kernel_rfl
set_option maxHeartbeats 12800000 in
set_option maxRecDepth 100000 in
theorem alike_is (gA gB : Nat) (m : LineM) (OA OB : Nat → Prop) (w : World) (hA : IsLine gA m OA w) (hB : IsLine gB m OB w) :
    Calls Try.prog 19 #[.pointer (some ⟨gA, 0, none⟩), .pointer (some ⟨gB, 0, none⟩)] w fun e w' => e = .returned (.bool true) ∧ Below w.heap.size w w' := by
  obtain ⟨pA, hA1, vA, bA, rpA, _, rvA, _⟩ := hA.ex
  obtain ⟨pB, hB1, vB, bB, rpB, _, rvB, _⟩ := hB.ex
  have lpA := rpA.len
  have lpB := rpB.len
  have lvA := rvA.len
  have lvB := rvB.len
  have sp := rpA.small
  have sv := rvA.small
  go_enter Try.func19, Try.ntmps19
  go_upto_region 1 with fail
  have hA := fun q => bA.below (grow_below w q) bA.lt
  have a0 : ∀ q, (grow w q).cell? ⟨gA, 0, none⟩ = some pA := fun q => (hA q).cell 0
  have a2 : ∀ q, (grow w q).cell? ⟨gA, 2, none⟩ = some vA := fun q => (hA q).cell 2
  have a3 : ∀ q, (grow w q).cell? ⟨gA, 3, none⟩ = some (.int .u32 m.cop) := fun q => (hA q).cell 3
  have hB := fun q => bB.below (grow_below w q) bB.lt
  have b0 : ∀ q, (grow w q).cell? ⟨gB, 0, none⟩ = some pB := fun q => (hB q).cell 0
  have b2 : ∀ q, (grow w q).cell? ⟨gB, 2, none⟩ = some vB := fun q => (hB q).cell 2
  have b3 : ∀ q, (grow w q).cell? ⟨gB, 3, none⟩ = some (.int .u32 m.cop) := fun q => (hB q).cell 3
  refine wp_region_grow (by kernel_rfl) (by kernel_rfl) ?_
  repeat (first | ((first | (refine wpQuiet_len (by rfl) _ rfl rfl lvA _ Try.underlying46 ⟨_, rfl⟩ ?_) | (refine wpQuiet_len (by rfl) _ rfl rfl lvB _ Try.underlying46 ⟨_, rfl⟩ ?_) | (refine wpQuiet_len (by rfl) _ rfl rfl lpA _ Try.underlying27 ⟨_, rfl⟩ ?_) | (refine wpQuiet_len (by rfl) _ rfl rfl lpB _ Try.underlying27 ⟨_, rfl⟩ ?_)); (try simp only [Act.put, List.setIfInBounds_toArray, List.set_cons_zero, List.set_cons_succ])) | go_big_quiet_step (fail))
  refine wpQuiet_nil ?_
  intro _ hw'
  obtain ⟨ew, hw''⟩ := hw'
  subst hw''
  have BB := grow_below w ew
  generalize grow w ew = w1 at BB ⊢
  clear a0 a2 a3 b0 b2 b3 hA hB
  go_wp2_with fail
  go_loopw [5] (fun v5 wr => ∃ k : Nat, k ≤ m.asked.length ∧ v5 = .int .i64 k ∧ Below w.heap.size w wr) (fun v5 _ => m.asked.length - (intOf v5).toNat)
  case atStart => exact ⟨0, Nat.zero_le _, rfl, BB⟩
  case round =>
    clear BB
    obtain ⟨k, hk, rfl, Br⟩ := hrel
    have bAr := bA.below Br bA.lt
    have bBr := bB.below Br bB.lt
    by_cases hlt : k < m.asked.length
    · obtain ⟨x, hx⟩ : ∃ x, m.asked[k]? = some x := ⟨_, List.getElem?_eq_getElem hlt⟩
      have ra := rvA.below Br
      have rb := rvB.below Br
      obtain ⟨ga, ca, ea⟩ : ∃ ga ca, vA = .slice (some ⟨ga, 0, none⟩) m.asked.length ca := by
        rcases ra.form with ⟨_, e0⟩ | ⟨g, c, e⟩
        · rw [e0] at hlt; simp at hlt
        · exact ⟨g, c, e⟩
      obtain ⟨gb, cb, eb⟩ : ∃ gb cb, vB = .slice (some ⟨gb, 0, none⟩) m.asked.length cb := by
        rcases rb.form with ⟨_, e0⟩ | ⟨g, c, e⟩
        · rw [e0] at hlt; simp at hlt
        · exact ⟨g, c, e⟩
      rw [ea] at ra bAr
      rw [eb] at rb bBr
      have t0 : wr.cell? ⟨gA, 2, none⟩ = some (.slice (some ⟨ga, 0, none⟩) m.asked.length ca) := bAr.cell 2
      go_upto_region 6 with fail
      have a2 : ∀ q, (grow wr q).cell? ⟨gA, 2, none⟩ = some (.slice (some ⟨ga, 0, none⟩) m.asked.length ca) := fun q => (bAr.below (grow_below wr q) bAr.lt).cell 2
      have b2 : ∀ q, (grow wr q).cell? ⟨gB, 2, none⟩ = some (.slice (some ⟨gb, 0, none⟩) m.asked.length cb) := fun q => (bBr.below (grow_below wr q) bBr.lt).cell 2
      have SA : ∀ w', (∃ q, w' = grow wr q) → w'.rangeAt ga (k * 12) (askC x) := fun w' ⟨q, e⟩ => by rw [e]; exact (ra.below (grow_below wr q)).range askC_len k x hx
      have SB : ∀ w', (∃ q, w' = grow wr q) → w'.rangeAt gb (k * 12) (askC x) := fun w' ⟨q, e⟩ => by rw [e]; exact (rb.below (grow_below wr q)).range askC_len k x hx
      have nq := neq_ask x
      clear ra rb rvA rvB rpA rpB bA bB bAr bBr t0 hx
      refine wp_region_grow (by kernel_rfl) (by kernel_rfl) ?_
      repeat (first | ((first | (refine wpQuiet_load_mid (by rfl) 54 (.tmp 56) rfl ga (k * 12) (by rfl) (askC x) _ SA Try.underlying54 rfl (by rw [ask_size, askC_len]) ?_) | (refine wpQuiet_load_mid (by rfl) 54 (.tmp 63) rfl gb (k * 12) (by rfl) (askC x) _ SB Try.underlying54 rfl (by rw [ask_size, askC_len]) ?_)); (try simp only [Act.put, List.setIfInBounds_toArray, List.set_cons_zero, List.set_cons_succ])) | go_big_quiet_step (fail))
      refine wpQuiet_nil ?_
      intro _ hw'
      obtain ⟨ew2, hw''⟩ := hw'
      subst hw''
      go_wp2_with fail
      go_roundw
      case rel => exact ⟨k + 1, by omega, by go_num, bthen Br (grow_below wr ew2)⟩
      case measure => simp [intOf]; omega
    · have ek : k = m.asked.length := by omega
      subst ek
      have t0 : wr.cell? ⟨gA, 2, none⟩ = some vA := bAr.cell 2
      go_wp2_with (refine wpList_len rfl _ rfl rfl lvA _ Try.underlying46 ⟨_, rfl⟩ ?_)
      go_loopw [6] (fun v6 ws => ∃ k : Nat, k ≤ m.puts.length ∧ v6 = .int .i64 k ∧ Below w.heap.size w ws) (fun v6 _ => m.puts.length - (intOf v6).toNat)
      case atStart => exact ⟨0, Nat.zero_le _, rfl, Br⟩
      case round =>
        clear t0 bAr bBr
        clear Br
        obtain ⟨k, hk, rfl, Br⟩ := hrel
        have bAr := bA.below Br bA.lt
        have bBr := bB.below Br bB.lt
        by_cases hlt : k < m.puts.length
        · obtain ⟨x, hx⟩ : ∃ x, m.puts[k]? = some x := ⟨_, List.getElem?_eq_getElem hlt⟩
          have ra := rpA.below Br
          have rb := rpB.below Br
          obtain ⟨ga, ca, ea⟩ : ∃ ga ca, pA = .slice (some ⟨ga, 0, none⟩) m.puts.length ca := by
            rcases ra.form with ⟨_, e0⟩ | ⟨g, c, e⟩
            · rw [e0] at hlt; simp at hlt
            · exact ⟨g, c, e⟩
          obtain ⟨gb, cb, eb⟩ : ∃ gb cb, pB = .slice (some ⟨gb, 0, none⟩) m.puts.length cb := by
            rcases rb.form with ⟨_, e0⟩ | ⟨g, c, e⟩
            · rw [e0] at hlt; simp at hlt
            · exact ⟨g, c, e⟩
          rw [ea] at ra bAr
          rw [eb] at rb bBr
          have t0 : wr.cell? ⟨gA, 0, none⟩ = some (.slice (some ⟨ga, 0, none⟩) m.puts.length ca) := bAr.cell 0
          go_upto_region 11 with fail
          have a2 : ∀ q, (grow wr q).cell? ⟨gA, 0, none⟩ = some (.slice (some ⟨ga, 0, none⟩) m.puts.length ca) := fun q => (bAr.below (grow_below wr q) bAr.lt).cell 0
          have b2 : ∀ q, (grow wr q).cell? ⟨gB, 0, none⟩ = some (.slice (some ⟨gb, 0, none⟩) m.puts.length cb) := fun q => (bBr.below (grow_below wr q) bBr.lt).cell 0
          have SA : ∀ w', (∃ q, w' = grow wr q) → w'.rangeAt ga (k * 2) (putC x) := fun w' ⟨q, e⟩ => by rw [e]; exact (ra.below (grow_below wr q)).range putC_len k x hx
          have SB : ∀ w', (∃ q, w' = grow wr q) → w'.rangeAt gb (k * 2) (putC x) := fun w' ⟨q, e⟩ => by rw [e]; exact (rb.below (grow_below wr q)).range putC_len k x hx
          have nq := neq_put x
          clear ra rb rvA rvB rpA rpB bA bB bAr bBr t0 hx
          refine wp_region_grow (by kernel_rfl) (by kernel_rfl) ?_
          repeat (first | ((first | (refine wpQuiet_load_mid (by rfl) 69 (.tmp 80) rfl ga (k * 2) (by rfl) (putC x) _ SA Try.underlying69 rfl (by rw [put_size, putC_len]) ?_) | (refine wpQuiet_load_mid (by rfl) 69 (.tmp 87) rfl gb (k * 2) (by rfl) (putC x) _ SB Try.underlying69 rfl (by rw [put_size, putC_len]) ?_)); (try simp only [Act.put, List.setIfInBounds_toArray, List.set_cons_zero, List.set_cons_succ])) | go_big_quiet_step (fail))
          refine wpQuiet_nil ?_
          intro _ hw'
          obtain ⟨ew2, hw''⟩ := hw'
          subst hw''
          go_wp2_with fail
          go_roundw
          case rel => exact ⟨k + 1, by omega, by go_num, bthen Br (grow_below wr ew2)⟩
          case measure => simp [intOf]; omega
        · have ek : k = m.puts.length := by omega
          subst ek
          have t0 : wr.cell? ⟨gA, 0, none⟩ = some pA := bAr.cell 0
          go_wp2_with (refine wpList_len rfl _ rfl rfl lpA _ Try.underlying27 ⟨_, rfl⟩ ?_)
          go_ret
          exact ⟨rfl, Br⟩
end Go.Proofs.Ytpfhplhamnohjaa
