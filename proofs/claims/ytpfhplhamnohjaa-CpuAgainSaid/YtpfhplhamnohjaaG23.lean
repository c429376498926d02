/- Layer 20: the room that a step takes. Layer 20: the law's alike, of two lines that hold the same. Layer 20: the walk of the law CpuSame. -/
import Derived.Test.YtpfhplhamnohjaaG17
namespace Go.Proofs.Ytpfhplhamnohjaa
open Go.RowKit

section
variable {T : TypeId} {V : Value} {M : Type} {I : M → (Nat → Prop) → World → Prop} {F : BusM M} {fA fC fR : Nat} (L : BusLaw T V I F fA fC fR)
include L
theorem mrun_fuelE (m : M) (o : Sta) (at_ : Int) (i : Ins) : ∀ k e, mrun F m o at_ i k = .error e → F.fuel m ≤ F.fuel e.1 + k
  | 0, e, h => by cases h
  | k + 1, e, h => by
    unfold mrun at h
    cases q : mrun F m o at_ i k with
    | error e1 =>
      rw [q] at h
      have ih := mrun_fuelE m o at_ i k e1 q
      rw [← Except.error.inj h]; omega
    | ok s1 =>
      rw [q] at h
      have ih := mrun_fuel L m o at_ i k s1 q
      dsimp only at h
      unfold mstep at h
      by_cases hz : bt16 i.list k = 0
      · rw [if_pos hz] at h; cases h
      rw [if_neg hz] at h
      dsimp only at h
      by_cases ho : (F.acc s1.1 (if i.op = 39 then 2 else 3) s1.2.1 4 (if i.op = 39 then 0 else getI o at_ k) (!userB o)).2.ok = true
      · rw [if_pos ho] at h; cases h
      · rw [if_neg ho] at h
        rw [← Except.error.inj h]
        have := L.spent s1.1 (if i.op = 39 then 2 else 3) s1.2.1 4 (if i.op = 39 then 0 else getI o at_ k) (!userB o)
        dsimp only
        omega
theorem exec_fuel (m : M) (o s : Sta) (at_ : Int) (i : Ins) : F.fuel m ≤ F.fuel (execO F m o s at_ i).1 + 16 := by
  unfold execO
  by_cases h16 : i.op ≤ 16
  · rw [if_pos h16]
    exact Nat.le_add_right _ _
  rw [if_neg h16]
  by_cases h18 : i.op ≤ 18
  · rw [if_pos h18]
    exact Nat.le_add_right _ _
  rw [if_neg h18]
  by_cases h24 : i.op ≤ 24
  · rw [if_pos h24]
    exact Nat.le_add_right _ _
  rw [if_neg h24]
  by_cases h30 : i.op ≤ 30
  · rw [if_pos h30]
    exact Nat.le_add_right _ _
  rw [if_neg h30]
  by_cases h38 : i.op ≤ 38
  · rw [if_pos h38]
    have : F.fuel m ≤ F.fuel (oneR F m o at_ i).1 + 1 := by
      unfold oneR
      exact L.spent _ _ _ _ _ _
    exact Nat.le_trans this (Nat.add_le_add_left (by omega) _)
  rw [if_neg h38]
  by_cases h40 : i.op ≤ 40
  · rw [if_pos h40]
    unfold manyO
    cases q : mrun F m o at_ i 16 with
    | error e => exact mrun_fuelE L m o at_ i 16 e q
    | ok st => exact mrun_fuel L m o at_ i 16 st q
  rw [if_neg h40]
  by_cases h44 : i.op ≤ 44
  · rw [if_pos h44]
    exact Nat.le_add_right _ _
  rw [if_neg h44]
  by_cases h46 : i.op ≤ 46
  · rw [if_pos h46]
    exact Nat.le_add_right _ _
  rw [if_neg h46]
  by_cases h48 : i.op ≤ 48
  · rw [if_pos h48]
    exact Nat.le_add_right _ _
  rw [if_neg h48]
  by_cases h49 : i.op = 49
  · rw [if_pos h49]
    exact Nat.le_trans (L.spentC m i (getI o at_ i.rd) (userB o)) (Nat.add_le_add_left (by omega) _)
  rw [if_neg h49]
  by_cases h50 : i.op = 50
  · rw [if_pos h50]
    exact Nat.le_trans (L.spentR m i (userB o)) (Nat.add_le_add_left (by omega) _)
  rw [if_neg h50]
  exact Nat.le_add_right _ _
theorem step_fuel (m : M) (s : Sta) (on : Bool) : F.fuel m ≤ F.fuel (stepO F m s on).1 + 17 := by
  have h1 := L.spent m 1 (s 28) 4 0 (!userB s)
  unfold stepO
  split
  · exact Nat.le_add_right _ _
  dsimp only
  split
  · dsimp only; omega
  unfold tookO
  split; · dsimp only; omega
  split; · dsimp only; omega
  split; · dsimp only; omega
  split; · dsimp only; omega
  split; · dsimp only; omega
  have h2 := exec_fuel L (F.acc m 1 (s 28) 4 0 (!userB s)).1 s (set s 28 ((s 28 + 4) % 4294967296)) (s 28) (decodeI (F.acc m 1 (s 28) 4 0 (!userB s)).2.val).1
  dsimp only
  omega
end
theorem line_fuel (m : LineM) (s : Sta) (on : Bool) : m.room ≤ (stepO lineF m s on).1.room + 17 := step_fuel (lineBus 0) m s on
theorem line_okS (m : LineM) (s : Sta) (on : Bool) (hs : OkS s) : OkS (stepO lineF m s on).2.1 := step_okS lineF (lineBus 0).val (lineBus 0).got m s on hs
end Go.Proofs.Ytpfhplhamnohjaa
namespace Go.Proofs.Ytpfhplhamnohjaa
set_option maxHeartbeats 25600000
set_option maxRecDepth 100000
open Go.RowKit

set_option linter.unusedSimpArgs false
/-- a slice of so many, made or nil -/
def LenIs (v : Value) (n : Nat) : Prop := (v = .slice none 0 0 ∧ n = 0) ∨ ∃ g c, v = .slice (some ⟨g, 0, none⟩) n c
theorem IsRow.len {α : Type} {f : α → List Value} {k : Nat} {e : TypeId} {w : World} {v : Value} {xs : List α} (h : IsRow f k e w v xs) : LenIs v xs.length := by
  rcases h.form with ⟨a, b⟩ | ⟨g, c, e⟩
  · exact .inl ⟨a, by rw [b]; rfl⟩
  · exact .inr ⟨g, c, e⟩
theorem run_len {P : Program} {o : Oper} {a : Act} {w : World} {v : Value} {n : Nat} {t : TypeId} (x : Operand) (ho : o.op = .call { callee := .builtin .len, args := #[x], argTypes := #[t] }) (hx : a.eval x = v) (hv : LenIs v n) (d : TypeDesc) (ht : P.underlying t = some d) (hd : ∃ e, d = .slice e) :
    (execOp a.eval o).run P w = .ok (.value (.int .i64 n)) w := by
  obtain ⟨e, rfl⟩ := hd
  unfold execOp
  simp only [ho, resolve, invoke, builtin, Sem.run_bind, Sem.run_pure, Result.andThen_ok, List.map_toArray, List.map_cons, List.map_nil, hx]
  rcases hv with ⟨rfl, rfl⟩ | ⟨g, c, rfl⟩ <;> simp [Builtin.len_, run_underlying ht] <;> rfl
theorem wpQuiet_len {P : Program} {ops : Array Oper} {C : World → Prop} {Q : Act → Prop} {o : Oper} {rest : List Oper} {a : Act} {v : Value} {n : Nat} {t : TypeId} (hw : Region.wanted o (yielded ops a.tmps) = true) (x : Operand) (ho : o.op = .call { callee := .builtin .len, args := #[x], argTypes := #[t] }) (hx : a.eval x = v) (hv : LenIs v n) (d : TypeDesc) (ht : P.underlying t = some d) (hd : ∃ e, d = .slice e)
    (h : wpQuiet P ops C Q rest (a.put o.dst (.int .i64 n))) : wpQuiet P ops C Q (o :: rest) a := by
  refine BigFrame.wpQuiet_want hw (fun K hK => ⟨.int .i64 n, fun w hC => ?_, hK _ h⟩)
  unfold Oper.quietAt
  rw [run_len x ho hx hv d ht hd]
  exact ⟨rfl, rfl⟩
theorem wpList_len {P : Program} {ops : Array Oper} {rest : List Oper} {o : Oper} {a : Act} {w : World} {Q : Exit → Act → World → Prop} {v : Value} {n : Nat} {t : TypeId} (hgd : o.guard = none) (x : Operand) (ho : o.op = .call { callee := .builtin .len, args := #[x], argTypes := #[t] }) (hx : a.eval x = v) (hv : LenIs v n) (d : TypeDesc) (ht : P.underlying t = some d) (hd : ∃ e, d = .slice e)
    (h : wpList P ops Q rest (a.put o.dst (.int .i64 n)) w) : wpList P ops Q (o :: rest) a w := by
  refine wpList_plain hgd fun K hK => ?_
  unfold Oper.wp
  rw [run_len x ho hx hv d ht hd]
  exact hK _ _ h
theorem eqIn_ask (d : Nat) (q : Ask) (w : World) : (Op.equalIn (d + 5) 54 (.agg (askC q).toArray) (.agg (askC q).toArray)).run Try.prog w = .ok true w := by
  unfold askC
  simp [go_sem]
theorem neq_ask (q : Ask) (w : World) : (binOp .neq 54 (.agg (askC q).toArray) (.agg (askC q).toArray)).run Try.prog w = .ok (.bool false) w := by
  rw [run_neq_struct, eqIn_ask 9995]; rfl
theorem eqIn_put (d : Nat) (q : Int × Int) (w : World) : (Op.equalIn (d + 5) 69 (.agg (putC q).toArray) (.agg (putC q).toArray)).run Try.prog w = .ok true w := by
  unfold putC
  simp [go_sem]
theorem neq_put (q : Int × Int) (w : World) : (binOp .neq 69 (.agg (putC q).toArray) (.agg (putC q).toArray)).run Try.prog w = .ok (.bool false) w := by
  rw [run_neq_struct, eqIn_put 9995]; rfl
theorem IsRow.range {α : Type} {f : α → List Value} {k : Nat} {e : TypeId} {w : World} {xs : List α} {g cap : Nat} (h : IsRow f k e w (.slice (some ⟨g, 0, none⟩) xs.length cap) xs) (hk : ∀ x, (f x).length = k) (i : Nat) (x : α) (hx : xs[i]? = some x) : w.rangeAt g (i * k) (f x) := fun j v hv => by
  have hj : j < k := by have := (List.getElem?_eq_some_iff.1 hv).1; rw [hk] at this; exact this
  rw [h.cell hk i j x hx hj]; exact hv
theorem IsRow.below {α : Type} {f : α → List Value} {k : Nat} {e : TypeId} {w w' : World} {v : Value} {xs : List α} (h : IsRow f k e w v xs) (b : Below w.heap.size w w') : IsRow f k e w' v xs := h.same (fun j q => b.block j (h.lt j q))
theorem ask_size : (Try.prog.info? 54).map (·.size) = some 12 := by kernel_rfl
theorem put_size : (Try.prog.info? 69).map (·.size) = some 2 := by kernel_rfl
theorem alike_is (gA gB : Nat) (m : LineM) (OA OB : Nat → Prop) (w : World) (hA : IsLine gA m OA w) (hB : IsLine gB m OB w) :
    Calls Try.prog 19 #[.pointer (some ⟨gA, 0, none⟩), .pointer (some ⟨gB, 0, none⟩)] w fun e w' => e = .returned (.bool true) ∧ Below w.heap.size w w' := by
  obtain ⟨pA, hA1, vA, bA, rpA, _, rvA, _⟩ := hA.ex
  obtain ⟨pB, hB1, vB, bB, rpB, _, rvB, _⟩ := hB.ex
  have lpA := rpA.len
  have lpB := rpB.len
  have lvA := rvA.len
  have lvB := rvB.len
  have sp := rpA.small
  have sv := rvA.small
  go_enter Try.func19, Try.ntmps19
  go_upto_region 1 with fail
  have hA := fun q => bA.below (grow_below w q) bA.lt
  have a0 : ∀ q, (grow w q).cell? ⟨gA, 0, none⟩ = some pA := fun q => (hA q).cell 0
  have a2 : ∀ q, (grow w q).cell? ⟨gA, 2, none⟩ = some vA := fun q => (hA q).cell 2
  have a3 : ∀ q, (grow w q).cell? ⟨gA, 3, none⟩ = some (.int .u32 m.cop) := fun q => (hA q).cell 3
  have hB := fun q => bB.below (grow_below w q) bB.lt
  have b0 : ∀ q, (grow w q).cell? ⟨gB, 0, none⟩ = some pB := fun q => (hB q).cell 0
  have b2 : ∀ q, (grow w q).cell? ⟨gB, 2, none⟩ = some vB := fun q => (hB q).cell 2
  have b3 : ∀ q, (grow w q).cell? ⟨gB, 3, none⟩ = some (.int .u32 m.cop) := fun q => (hB q).cell 3
  refine wp_region_grow (by kernel_rfl) (by kernel_rfl) ?_
  repeat (first | ((first | (refine wpQuiet_len (by rfl) _ rfl rfl lvA _ Try.underlying46 ⟨_, rfl⟩ ?_) | (refine wpQuiet_len (by rfl) _ rfl rfl lvB _ Try.underlying46 ⟨_, rfl⟩ ?_) | (refine wpQuiet_len (by rfl) _ rfl rfl lpA _ Try.underlying27 ⟨_, rfl⟩ ?_) | (refine wpQuiet_len (by rfl) _ rfl rfl lpB _ Try.underlying27 ⟨_, rfl⟩ ?_)); (try simp only [Act.put, List.setIfInBounds_toArray, List.set_cons_zero, List.set_cons_succ])) | go_big_quiet_step (fail))
  refine wpQuiet_nil ?_
  intro _ hw'
  obtain ⟨ew, hw''⟩ := hw'
  subst hw''
  have BB := grow_below w ew
  generalize grow w ew = w1 at BB ⊢
  clear a0 a2 a3 b0 b2 b3 hA hB
  go_wp2_with fail
  go_loopw [5] (fun v5 wr => ∃ k : Nat, k ≤ m.asked.length ∧ v5 = .int .i64 k ∧ Below w.heap.size w wr) (fun v5 _ => m.asked.length - (intOf v5).toNat)
  case atStart => exact ⟨0, Nat.zero_le _, rfl, BB⟩
  case round =>
    clear BB
    obtain ⟨k, hk, rfl, Br⟩ := hrel
    have bAr := bA.below Br bA.lt
    have bBr := bB.below Br bB.lt
    by_cases hlt : k < m.asked.length
    · obtain ⟨x, hx⟩ : ∃ x, m.asked[k]? = some x := ⟨_, List.getElem?_eq_getElem hlt⟩
      have ra := rvA.below Br
      have rb := rvB.below Br
      obtain ⟨ga, ca, ea⟩ : ∃ ga ca, vA = .slice (some ⟨ga, 0, none⟩) m.asked.length ca := by
        rcases ra.form with ⟨_, e0⟩ | ⟨g, c, e⟩
        · rw [e0] at hlt; simp at hlt
        · exact ⟨g, c, e⟩
      obtain ⟨gb, cb, eb⟩ : ∃ gb cb, vB = .slice (some ⟨gb, 0, none⟩) m.asked.length cb := by
        rcases rb.form with ⟨_, e0⟩ | ⟨g, c, e⟩
        · rw [e0] at hlt; simp at hlt
        · exact ⟨g, c, e⟩
      rw [ea] at ra bAr
      rw [eb] at rb bBr
      have t0 : wr.cell? ⟨gA, 2, none⟩ = some (.slice (some ⟨ga, 0, none⟩) m.asked.length ca) := bAr.cell 2
      go_upto_region 6 with fail
      have a2 : ∀ q, (grow wr q).cell? ⟨gA, 2, none⟩ = some (.slice (some ⟨ga, 0, none⟩) m.asked.length ca) := fun q => (bAr.below (grow_below wr q) bAr.lt).cell 2
      have b2 : ∀ q, (grow wr q).cell? ⟨gB, 2, none⟩ = some (.slice (some ⟨gb, 0, none⟩) m.asked.length cb) := fun q => (bBr.below (grow_below wr q) bBr.lt).cell 2
      have SA : ∀ w', (∃ q, w' = grow wr q) → w'.rangeAt ga (k * 12) (askC x) := fun w' ⟨q, e⟩ => by rw [e]; exact (ra.below (grow_below wr q)).range askC_len k x hx
      have SB : ∀ w', (∃ q, w' = grow wr q) → w'.rangeAt gb (k * 12) (askC x) := fun w' ⟨q, e⟩ => by rw [e]; exact (rb.below (grow_below wr q)).range askC_len k x hx
      have nq := neq_ask x
      clear ra rb rvA rvB rpA rpB bA bB bAr bBr t0 hx
      refine wp_region_grow (by kernel_rfl) (by kernel_rfl) ?_
      repeat (first | ((first | (refine wpQuiet_load_mid (by rfl) 54 (.tmp 56) rfl ga (k * 12) (by rfl) (askC x) _ SA Try.underlying54 rfl (by rw [ask_size, askC_len]) ?_) | (refine wpQuiet_load_mid (by rfl) 54 (.tmp 63) rfl gb (k * 12) (by rfl) (askC x) _ SB Try.underlying54 rfl (by rw [ask_size, askC_len]) ?_)); (try simp only [Act.put, List.setIfInBounds_toArray, List.set_cons_zero, List.set_cons_succ])) | go_big_quiet_step (fail))
      refine wpQuiet_nil ?_
      intro _ hw'
      obtain ⟨ew2, hw''⟩ := hw'
      subst hw''
      go_wp2_with fail
      go_roundw
      case rel => exact ⟨k + 1, by omega, by go_num, bthen Br (grow_below wr ew2)⟩
      case measure => simp [intOf]; omega
    · have ek : k = m.asked.length := by omega
      subst ek
      have t0 : wr.cell? ⟨gA, 2, none⟩ = some vA := bAr.cell 2
      go_wp2_with (refine wpList_len rfl _ rfl rfl lvA _ Try.underlying46 ⟨_, rfl⟩ ?_)
      go_loopw [6] (fun v6 ws => ∃ k : Nat, k ≤ m.puts.length ∧ v6 = .int .i64 k ∧ Below w.heap.size w ws) (fun v6 _ => m.puts.length - (intOf v6).toNat)
      case atStart => exact ⟨0, Nat.zero_le _, rfl, Br⟩
      case round =>
        clear t0 bAr bBr
        clear Br
        obtain ⟨k, hk, rfl, Br⟩ := hrel
        have bAr := bA.below Br bA.lt
        have bBr := bB.below Br bB.lt
        by_cases hlt : k < m.puts.length
        · obtain ⟨x, hx⟩ : ∃ x, m.puts[k]? = some x := ⟨_, List.getElem?_eq_getElem hlt⟩
          have ra := rpA.below Br
          have rb := rpB.below Br
          obtain ⟨ga, ca, ea⟩ : ∃ ga ca, pA = .slice (some ⟨ga, 0, none⟩) m.puts.length ca := by
            rcases ra.form with ⟨_, e0⟩ | ⟨g, c, e⟩
            · rw [e0] at hlt; simp at hlt
            · exact ⟨g, c, e⟩
          obtain ⟨gb, cb, eb⟩ : ∃ gb cb, pB = .slice (some ⟨gb, 0, none⟩) m.puts.length cb := by
            rcases rb.form with ⟨_, e0⟩ | ⟨g, c, e⟩
            · rw [e0] at hlt; simp at hlt
            · exact ⟨g, c, e⟩
          rw [ea] at ra bAr
          rw [eb] at rb bBr
          have t0 : wr.cell? ⟨gA, 0, none⟩ = some (.slice (some ⟨ga, 0, none⟩) m.puts.length ca) := bAr.cell 0
          go_upto_region 11 with fail
          have a2 : ∀ q, (grow wr q).cell? ⟨gA, 0, none⟩ = some (.slice (some ⟨ga, 0, none⟩) m.puts.length ca) := fun q => (bAr.below (grow_below wr q) bAr.lt).cell 0
          have b2 : ∀ q, (grow wr q).cell? ⟨gB, 0, none⟩ = some (.slice (some ⟨gb, 0, none⟩) m.puts.length cb) := fun q => (bBr.below (grow_below wr q) bBr.lt).cell 0
          have SA : ∀ w', (∃ q, w' = grow wr q) → w'.rangeAt ga (k * 2) (putC x) := fun w' ⟨q, e⟩ => by rw [e]; exact (ra.below (grow_below wr q)).range putC_len k x hx
          have SB : ∀ w', (∃ q, w' = grow wr q) → w'.rangeAt gb (k * 2) (putC x) := fun w' ⟨q, e⟩ => by rw [e]; exact (rb.below (grow_below wr q)).range putC_len k x hx
          have nq := neq_put x
          clear ra rb rvA rvB rpA rpB bA bB bAr bBr t0 hx
          refine wp_region_grow (by kernel_rfl) (by kernel_rfl) ?_
          repeat (first | ((first | (refine wpQuiet_load_mid (by rfl) 69 (.tmp 80) rfl ga (k * 2) (by rfl) (putC x) _ SA Try.underlying69 rfl (by rw [put_size, putC_len]) ?_) | (refine wpQuiet_load_mid (by rfl) 69 (.tmp 87) rfl gb (k * 2) (by rfl) (putC x) _ SB Try.underlying69 rfl (by rw [put_size, putC_len]) ?_)); (try simp only [Act.put, List.setIfInBounds_toArray, List.set_cons_zero, List.set_cons_succ])) | go_big_quiet_step (fail))
          refine wpQuiet_nil ?_
          intro _ hw'
          obtain ⟨ew2, hw''⟩ := hw'
          subst hw''
          go_wp2_with fail
          go_roundw
          case rel => exact ⟨k + 1, by omega, by go_num, bthen Br (grow_below wr ew2)⟩
          case measure => simp [intOf]; omega
        · have ek : k = m.puts.length := by omega
          subst ek
          have t0 : wr.cell? ⟨gA, 0, none⟩ = some pA := bAr.cell 0
          go_wp2_with (refine wpList_len rfl _ rfl rfl lpA _ Try.underlying27 ⟨_, rfl⟩ ?_)
          go_ret
          exact ⟨rfl, Br⟩
end Go.Proofs.Ytpfhplhamnohjaa
namespace Go.Proofs.Ytpfhplhamnohjaa
set_option maxHeartbeats 25600000
set_option maxRecDepth 100000
open Go.RowKit

set_option linter.unusedSimpArgs false
theorem made_isL (s : Sta) : isL (madeS s) = true := by
  unfold madeS
  split
  · assumption
  · decide
/-- two processors, each over its line -/
structure Two (w : World) (gc gd ga gb : Nat) (mc : LineM) (sc : Sta) (md : LineM) (sd : Sta) (A : Nat → Prop) (wr : World) : Prop where
  c : Blok wr gc 85 (cpuCells sc false)
  d : Blok wr gd 85 (cpuCells sd false)
  ne : gc ≠ gd
  lc : w.heap.size ≤ gc
  ld : w.heap.size ≤ gd
  ex : ∃ O1 O2 : Nat → Prop, IsLine ga mc O1 wr ∧ IsLine gb md O2 wr ∧ (∀ j, O1 j → j ≠ gc ∧ j ≠ gd ∧ ¬ O2 j ∧ w.heap.size ≤ j) ∧ (∀ j, O2 j → j ≠ gc ∧ j ≠ gd ∧ w.heap.size ≤ j) ∧ ∀ j, A j → j < wr.heap.size ∧ j ≠ gc ∧ j ≠ gd ∧ ¬ O1 j ∧ ¬ O2 j
  bel : Below w.heap.size w wr
section
variable {w wr w' : World} {gc gd ga gb : Nat} {mc md : LineM} {sc sd : Sta} {A : Nat → Prop}
theorem Two.swap (h : Two w gc gd ga gb mc sc md sd A wr) : Two w gd gc gb ga md sd mc sc A wr := by
  obtain ⟨O1, O2, a, b, c, d, f⟩ := h.ex
  exact ⟨h.d, h.c, h.ne.symm, h.ld, h.lc, ⟨O2, O1, b, a, fun j q => ⟨(d j q).2.1, (d j q).1, fun o => (c j o).2.2.1 q, (d j q).2.2⟩, fun j q => ⟨(c j q).2.1, (c j q).1, (c j q).2.2.2⟩, fun j q => ⟨(f j q).1, (f j q).2.2.1, (f j q).2.1, (f j q).2.2.2.2, (f j q).2.2.2.1⟩⟩, h.bel⟩
theorem Two.keep (h : Two w gc gd ga gb mc sc md sd A wr) (b : Below wr.heap.size wr w') (B : Nat → Prop) (hB : ∀ j, B j → A j ∨ (wr.heap.size ≤ j ∧ j < w'.heap.size)) : Two w gc gd ga gb mc sc md sd B w' := by
  obtain ⟨O1, O2, a, b2, c, d, f⟩ := h.ex
  refine ⟨h.c.below b h.c.lt, h.d.below b h.d.lt, h.ne, h.lc, h.ld, ⟨O1, O2, a.keep (GrownS.ofBelow (S := fun _ => False) b) (fun _ _ q => q), b2.keep (GrownS.ofBelow (S := fun _ => False) b) (fun _ _ q => q), c, d, fun j q => ?_⟩, bthen h.bel b⟩
  rcases hB j q with p | ⟨p, p2⟩
  · exact ⟨Nat.lt_of_lt_of_le (f j p).1 b.size, (f j p).2⟩
  · have h1 := h.c.lt
    have h2 := h.d.lt
    exact ⟨p2, by omega, by omega, fun o => by have := a.old j o; omega, fun o => by have := b2.old j o; omega⟩
def tkV (t : Tk) : Value := .tuple #[.agg #[.int .i64 t.kind, .int .u32 t.at_, .int .u32 t.word, .int .u32 t.va, .int .i64 t.fk, .int .i64 t.fl, .int .i64 t.fd, .bool t.store], .int .i64 0]
theorem Two.stepC (h : Two w gc gd ga gb mc sc md sd A wr) (hs : OkS sc) (hr : 17 ≤ mc.room) :
    Calls Try.prog 13 #[.pointer (some ⟨gc, 0, none⟩), .iface 33 (.pointer (some ⟨ga, 0, none⟩))] wr fun e w' => e = .returned (tkV (stepO lineF mc sc false).2.2) ∧ Two w gc gd ga gb (stepO lineF mc sc false).1 (stepO lineF mc sc false).2.1 md sd A w' ∧ ∀ j, A j → w'.heap[j]? = wr.heap[j]? := by
  obtain ⟨O1, O2, a, b, c, d, f⟩ := h.ex
  refine (lineStep ga mc O1 sc false gc 85 hs wr h.c a (fun q => (c _ q).1 rfl) hr).mono ?_
  rintro e w1 ⟨rfl, hC, O, hI, gS, kS⟩
  have nd : ¬ (gd = gc ∨ O1 gd) := fun q => q.elim (fun e => h.ne e.symm) (fun o => (c _ o).2.1 rfl)
  have lz := h.bel.size
  have h1 := h.c.lt
  have h2 := h.d.lt
  refine ⟨rfl, ⟨hC, h.d.gs gS nd, h.ne, h.lc, h.ld, ⟨O, O2, hI, b.keep gS (fun j o q => q.elim (fun e => (d j o).1 e) (fun p => (c j p).2.2.1 o)), fun j q => ?_, d, fun j q => ⟨Nat.lt_of_lt_of_le (f j q).1 gS.size, (f j q).2.1, (f j q).2.2.1, fun o => ?_, (f j q).2.2.2.2⟩⟩, h.bel.trans (gS.bel lz (fun j o => o.elim (fun e => by have := h.lc; omega) (fun o => (c j o).2.2.2)))⟩, fun j q => gS.block j (f j q).1 (fun o => o.elim (f j q).2.1 (f j q).2.2.2.1)⟩
  · rcases kS j q with o | o
    · exact c j o
    · exact ⟨by omega, by omega, fun p => by have := b.old j p; omega, by omega⟩
  · rcases kS j o with p | p
    · exact (f j q).2.2.2.1 p
    · have := (f j q).1; omega
end
theorem eqIn_took (d : Nat) (q : Tk) (w : World) : (Op.equalIn (d + 5) 38 (.agg (tkCells q).toArray) (.agg (tkCells q).toArray)).run Try.prog w = .ok true w := by
  unfold tkCells
  simp [go_sem]
theorem neq_took (q : Tk) (w : World) : (binOp .neq 38 (.agg (tkCells q).toArray) (.agg (tkCells q).toArray)).run Try.prog w = .ok (.bool false) w := by
  rw [run_neq_struct, eqIn_took 9995]; rfl
theorem tkCells_len (t : Tk) : (tkCells t).length = 8 := rfl
theorem same_walk (s o : Sta) (hs : OkS s) (ho : OkS o) (puts : List (Int × Int)) (holes : List Hol) (vp vh : Value) (hp : ∀ p ∈ puts, (0 ≤ p.1 ∧ p.1 < 4294967296) ∧ (0 ≤ p.2 ∧ p.2 < 4294967296)) (hh : ∀ h ∈ holes, (0 ≤ h.lo ∧ h.lo < 4294967296) ∧ (0 ≤ h.hi ∧ h.hi < 4294967296))
    (lp : puts.length ≤ 17592186044416) (lh : holes.length ≤ 4398046511104) (n : Int) (w : World) (ap : ArgRow putC w vp puts) (ah : ArgRow holC w vh holes) :
    Calls Try.prog 4 #[.agg (staCells s).toArray, .agg (staCells o).toArray, vp, vh, .int .i64 n] w fun e w' => e = .returned (.bool true) ∧ Below w.heap.size w w' := by
  have ok1 := okS_made hs
  have ok2 := okS_made ho
  have iL := made_isL s
  have MD := Lib.hid (fun w => made_is s hs w)
  have ME := Lib.hid (fun w => made_is o ho w)
  have LV := Lib.hid (fun w => live_is w)
  generalize madeS s = s0 at MD ok1 iL
  generalize madeS o = o0 at ME ok2
  have AP := Lib.hid (fun w' (b : Below w.heap.size w w') => ap.below b)
  have AH := Lib.hid (fun w' (b : Below w.heap.size w w') => ah.below b)
  have NP := Lib.hid (fun w' (b : Below w.heap.size w w') => NewLine_is puts [] vp (.slice none 0 0) 100 hp (fun h q => by cases q) lp (by simp) (by omega) w' (AP.out w' b) (.inl ⟨rfl, rfl⟩))
  have NH := Lib.hid (fun w' (b : Below w.heap.size w w') => NewLine_is [] holes (.slice none 0 0) vh 100 (fun h q => by cases q) hh (by simp) lh (by omega) w' (.inl ⟨rfl, rfl⟩) (AH.out w' b))
  have NB := Lib.hid (fun w' (b : Below w.heap.size w w') => NewLine_is puts holes vp vh 20000 hp hh lp lh (by omega) w' (AP.out w' b) (AH.out w' b))
  clear AP AH ap ah hp hh lp lh
  have h1 : Blok (w.alloc (.cells (staCells s).toArray 26)) w.heap.size 26 (staCells s) := Blok.new w _ (staCells s)
  have b1 : Below w.heap.size w (w.alloc (.cells (staCells s).toArray 26)) := (Below.refl _ _).alloc (Nat.le_refl _) _
  go_enter Try.func4, Try.ntmps4
  go_upto_region 1 with fail
  have h2 : Blok ((w.alloc (.cells (staCells s).toArray 26)).alloc (.cells (staCells o).toArray 26)) (w.heap.size + 1) 26 (staCells o) := by
    have z := Blok.new (w.alloc (.cells (staCells s).toArray 26)) 26 (staCells o)
    rw [show (w.alloc (.cells (staCells s).toArray 26)).heap.size = w.heap.size + 1 by simp] at z
    exact z
  have h3 := h1.alloc (.cells (staCells o).toArray 26)
  have b2 : Below w.heap.size w ((w.alloc (.cells (staCells s).toArray 26)).alloc (.cells (staCells o).toArray 26)) := b1.alloc b1.size _
  clear h1 b1
  change Code.wp _ _ _ _ ((w.alloc (.cells (staCells s).toArray 26)).alloc (.cells (staCells o).toArray 26))
  generalize (w.alloc (.cells (staCells s).toArray 26)).alloc (.cells (staCells o).toArray 26) = w1 at h2 h3 b2 ⊢
  go_upto_region 5 with (first | (go_at_call 10; (with_reducible refine (LV.out _).mono ?_); rintro e w4 ⟨rfl, b5⟩) | (go_at_call 9; first | ((with_reducible refine (MD.out _).mono ?_); rintro e w2 ⟨gc, rfl, hC, b3, lc⟩; have h4 := h2.below b3 h2.lt) | ((with_reducible refine (ME.out _).mono ?_); rintro e w3 ⟨gd, rfl, hD, b4, ld⟩)) | (refine wpList_load_mid rfl 26 (.tmp 5) rfl w.heap.size 0 rfl (staCells s) _ h3.range Try.underlying26 rfl (by rw [sta_size, staCells_len]) ?_) | (refine wpList_load_mid rfl 26 (.tmp 6) rfl (w.heap.size + 1) 0 rfl (staCells o) _ h4.range Try.underlying26 rfl (by rw [sta_size, staCells_len]) ?_))
  have hC4 := (hC.below b4 hC.lt).below b5 (Nat.lt_of_lt_of_le hC.lt b4.size)
  have hD4 := hD.below b5 hD.lt
  have BB4 := bthen (bthen (bthen b2 b3) b4) b5
  have ne : gc ≠ gd := by have := hC.lt; omega
  have lc4 : w.heap.size ≤ gc := Nat.le_trans b2.size lc
  have ld4 : w.heap.size ≤ gd := Nat.le_trans (Nat.le_trans b2.size b3.size) ld
  clear hC hD b2 b3 b4 b5 lc ld h2 h3 h4 MD ME LV
  go_upto_region 6 with (first | (go_at_call 12; (with_reducible refine (NP.out _ BB4).mono ?_); rintro e w5 ⟨g5, O5, rfl, hI5, b6, nO5⟩; have hD5 := hD4.below b6 hD4.lt; have hC5 := hC4.below b6 hC4.lt; have ok3 := line_okS ⟨puts, [], [], 0, 100⟩ o0 false ok2; have ST5 := lineStep g5 ⟨puts, [], [], 0, 100⟩ O5 o0 false gd 85 ok2 w5 hD5 hI5 (fun q => by have := nO5 _ q; have := hD4.lt; omega) (by simp); generalize stepO lineF ⟨puts, [], [], 0, 100⟩ o0 false = r5 at ST5 ok3) | (go_at_call 13; (with_reducible refine ST5.mono ?_); rintro e w6 ⟨rfl, hD6, O6, hI6, g6, k6⟩))
  have hC6 := hC5.gs g6 (fun q => q.elim ne (fun o => by have := nO5 _ o; have := hC4.lt; omega))
  have BB6 : Below w.heap.size w w6 := (bthen BB4 b6).trans (g6.bel (bthen BB4 b6).size (fun j o => o.elim (fun e => by omega) (fun o => by have := nO5 _ o; have := BB4.size; omega)))
  obtain ⟨m5, o1, t5⟩ := r5
  dsimp only at hD6 ok3
  clear ok2 ST5 hI6 k6 g6 hI5 hD5 hC5 nO5 b6 BB4 hC4 hD4
  go_upto_region 7 with (first | (go_at_call 12; (with_reducible refine (NH.out _ BB6).mono ?_); rintro e w7 ⟨g7, O7, rfl, hI7, b7, nO7⟩; have hD7 := hD6.below b7 hD6.lt; have hC7 := hC6.below b7 hC6.lt; have ok4 := line_okS ⟨[], holes, [], 0, 100⟩ o1 false ok3; have ST7 := lineStep g7 ⟨[], holes, [], 0, 100⟩ O7 o1 false gd 85 ok3 w7 hD7 hI7 (fun q => by have := nO7 _ q; have := hD6.lt; omega) (by simp); generalize stepO lineF ⟨[], holes, [], 0, 100⟩ o1 false = r7 at ST7 ok4) | (go_at_call 13; (with_reducible refine ST7.mono ?_); rintro e w8 ⟨rfl, hD8, O8, hI8, g8, k8⟩))
  have hC8 := hC7.gs g8 (fun q => q.elim ne (fun o => by have := nO7 _ o; have := hC6.lt; omega))
  have BB8 : Below w.heap.size w w8 := (bthen BB6 b7).trans (g8.bel (bthen BB6 b7).size (fun j o => o.elim (fun e => by omega) (fun o => by have := nO7 _ o; have := BB6.size; omega)))
  obtain ⟨m7, o2, t7⟩ := r7
  dsimp only at hD8 ok4
  clear ok3 ST7 hI8 k8 g8 hI7 hD7 hC7 nO7 b7 BB6 hC6 hD6
  have SS := Lib.hid (State_is s0 false gc 85 w8 hC8)
  have LD := Lib.hid (fun wq (b : Below w8.heap.size w8 wq) => Load_yes s0 o2 false gd 85 (ok1 29 (by omega)) wq (hD8.below b hD8.lt) iL)
  go_upto_region 9 with (first | (go_at_call 11; (with_reducible refine (SS.out).mono ?_); rintro e w9 ⟨rfl, b9⟩) | (go_at_call 18; (with_reducible refine (LD.out _ b9).mono ?_); rintro e w10 ⟨rfl, hD10, g10⟩) | (go_at_call 14; (with_reducible refine (no_is _ _).mono ?_); rintro e wq ⟨rfl, rfl⟩))
  have hC10 := (hC8.below b9 hC8.lt).grown g10 (fun e => ne (Option.some.inj e))
  have BB10 := bgrow (bthen BB8 b9) g10 ld4
  clear SS LD hC8 hD8 b9 g10 BB8 iL
  go_upto_region 10 with (go_at_call 12; (with_reducible refine (NB.out _ BB10).mono ?_); rintro e w11 ⟨ga, OA, rfl, hIA, b11, nOA⟩)
  have BB11 := bthen BB10 b11
  go_upto_region 11 with (go_at_call 12; (with_reducible refine (NB.out _ BB11).mono ?_); rintro e w12 ⟨gb, OB, rfl, hIB, b12, nOB⟩)
  have T0 : Two w gc gd ga gb ⟨puts, holes, [], 0, 20000⟩ s0 ⟨puts, holes, [], 0, 20000⟩ s0 (fun _ => False) w12 := by
    have h1 := hC10.lt
    have h2 := hD10.lt
    have h3 := BB10.size
    have h4 := b11.size
    have hC11 := hC10.below b11 hC10.lt
    have hD11 := hD10.below b11 hD10.lt
    exact ⟨hC11.below b12 hC11.lt, hD11.below b12 hD11.lt, ne, lc4, ld4, ⟨OA, OB, hIA.keep (GrownS.ofBelow (S := fun _ => False) b12) (fun _ _ q => q), hIB, fun j q => by
      have l := nOA j q
      have l2 := hIA.old j q
      exact ⟨by omega, by omega, fun o => by have := nOB j o; omega, by omega⟩, fun j q => by
      have l := nOB j q
      exact ⟨by omega, by omega, by omega⟩, fun j q => q.elim⟩, bthen BB11 b12⟩
  clear NP NH NB hIA hIB nOA nOB hC10 hD10 BB10 BB11 b11 b12
  go_wp2_with fail
  go_loopw [15] (fun v15 wr => ∃ k : Nat, v15 = .int .i64 k ∧ k ≤ 1000 ∧ ∃ m s', OkS s' ∧ 20000 ≤ m.room + 17 * k ∧ Two w gc gd ga gb m s' m s' (fun _ => False) wr) (fun v15 _ => 1000 - (intOf v15).toNat)
  case atStart => exact ⟨0, rfl, by omega, _, _, ok1, by simp, T0⟩
  case round =>
    clear T0 ok1 ok4
    obtain ⟨k, rfl, hk, m, s', ok, hr, T⟩ := hrel
    by_cases h1 : (k : Int) < n
    by_cases h2 : k < 1000
    · have r17 : 17 ≤ m.room := by omega
      have SC := T.stepC ok r17
      have SD := fun ta wq (h : Two w gc gd ga gb (stepO lineF m s' false).1 (stepO lineF m s' false).2.1 m s' (fun j => j = ta) wq) => h.swap.stepC ok r17
      have ok' := line_okS m s' false ok
      have hf := line_fuel m s' false
      generalize stepO lineF m s' false = r at SC SD ok' hf
      obtain ⟨m1, s1, t1⟩ := r
      dsimp only at SC SD ok' hf
      unfold tkV at SC SD
      have SC := Lib.hid SC
      have SD := Lib.hid SD
      clear T ok
      go_upto_region 15 with (go_at_call 13; (with_reducible refine (SC.out).mono ?_); rintro e w3 ⟨rfl, T3, _⟩)
      change Code.wp _ _ _ _ (w3.alloc (tkO t1))
      have hT : Blok (w3.alloc (tkO t1)) w3.heap.size 38 (tkCells t1) := Blok.new w3 _ (tkCells t1)
      have T4 := T3.keep (w' := w3.alloc (tkO t1)) ((Below.refl _ _).alloc (Nat.le_refl _) _) (fun j => j = w3.heap.size) (fun j e => .inr ⟨by omega, by simp; omega⟩)
      clear T3 SC
      generalize w3.alloc (tkO t1) = w4 at hT T4 ⊢
      generalize w3.heap.size = ta at hT T4 ⊢
      go_upto_region 16 with (go_at_call 13; (with_reducible refine (SD.out _ _ T4).mono ?_); rintro e w5 ⟨rfl, T5, a5⟩)
      have hT5 : Blok w5 ta 38 (tkCells t1) := (a5 _ rfl).trans hT
      change Code.wp _ _ _ _ (w5.alloc (tkO t1))
      have hU : Blok (w5.alloc (tkO t1)) w5.heap.size 38 (tkCells t1) := Blok.new w5 _ (tkCells t1)
      have hT6 := hT5.alloc (tkO t1)
      have T6 := T5.swap.keep (w' := w5.alloc (tkO t1)) ((Below.refl _ _).alloc (Nat.le_refl _) _) (fun _ => False) (fun j e => e.elim)
      clear T5 SD hT hT5 a5 T4
      generalize w5.alloc (tkO t1) = w6 at hU hT6 T6 ⊢
      generalize w5.heap.size = tb at hU ⊢
      have S1 := Lib.hid (State_is s1 false gc 85 w6 T6.c)
      have S2 := Lib.hid (fun w7 (b : Below w6.heap.size w6 w7) => State_is s1 false gd 85 w7 (T6.d.below b T6.d.lt))
      have T6 := Lib.hid T6
      have nq := neq_took t1
      have nr := neq_sta s1
      go_wp2_with (first | (refine wpList_load_mid rfl 38 (.tmp 16) rfl ta 0 rfl (tkCells t1) _ hT6.range Try.underlying38 rfl (by rw [took_size, tkCells_len]) ?_) | (refine wpList_load_mid rfl 38 (.tmp 18) rfl tb 0 rfl (tkCells t1) _ hU.range Try.underlying38 rfl (by rw [took_size, tkCells_len]) ?_) | (go_at_call 11; first | ((with_reducible refine (S1.out).mono ?_); rintro e w7 ⟨rfl, b7⟩) | ((with_reducible refine (S2.out _ b7).mono ?_); rintro e w8 ⟨rfl, b8⟩)))
      go_roundw
      case rel => exact ⟨k + 1, by go_num, by omega, m1, s1, ok', by omega, T6.out.keep (bthen b7 b8) (fun _ => False) (fun j e => e.elim)⟩
      case measure => simp [intOf]; omega
    all_goals
      obtain ⟨O1, O2, hA, hB2, _⟩ := T.ex
      have AL := Lib.hid (alike_is ga gb m O1 O2 wr hA hB2)
      clear hA hB2
      go_wp2_with (go_at_call 19; (with_reducible refine (AL.out).mono ?_); rintro e wz ⟨rfl, bz⟩)
      go_ret
      exact ⟨rfl, bthen T.bel bz⟩
end Go.Proofs.Ytpfhplhamnohjaa
