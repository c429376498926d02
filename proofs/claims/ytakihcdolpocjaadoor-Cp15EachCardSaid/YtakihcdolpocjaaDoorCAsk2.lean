/- The law's asked of layer 8: Write and Put on both files. -/
import Derived.Test.YtakihcdolpocjaaDoorCAsk1
namespace Go.Proofs.YtakihcdolpocjaaDoor
open Go.RowKit

theorem writeR_act (t : Tup) (priv : Bool) (v : Int) (rs : List Int) : ∃ (a0 a1 a2 a3 a4 : Int) (a5 a6 : Bool), (writeR t priv v rs).1 = #[.int .i64 a0, .int .i64 a1, .int .u32 a2, .int .i64 a3, .int .u32 a4, .bool a5, .bool a6] := by
  unfold writeR
  split
  · split
    · dsimp only
      split <;> exact ⟨_, _, _, _, _, _, _, rfl⟩
    · exact ⟨_, _, _, _, _, _, _, rfl⟩
  · split
    · exact ⟨_, _, _, _, _, _, _, rfl⟩
    · split
      · split <;> exact ⟨_, _, _, _, _, _, _, rfl⟩
      · split
        · split <;> exact ⟨_, _, _, _, _, _, _, rfl⟩
        · exact ⟨_, _, _, _, _, _, _, rfl⟩
theorem eql_act (a0 a1 a2 a3 a4 : Int) (a5 a6 : Bool) (w : World) : (binOp .eql 42 (.agg #[.int .i64 a0, .int .i64 a1, .int .u32 a2, .int .i64 a3, .int .u32 a4, .bool a5, .bool a6]) (.agg #[.int .i64 a0, .int .i64 a1, .int .u32 a2, .int .i64 a3, .int .u32 a4, .bool a5, .bool a6])).run Tryd.prog w = .ok (.bool true) w := by
  have h : (Op.equalIn (9995 + 5) 42 (.agg #[.int .i64 a0, .int .i64 a1, .int .u32 a2, .int .i64 a3, .int .u32 a4, .bool a5, .bool a6]) (.agg #[.int .i64 a0, .int .i64 a1, .int .u32 a2, .int .i64 a3, .int .u32 a4, .bool a5, .bool a6])).run Tryd.prog w = .ok true w := by simp [go_sem]
  rw [run_eql_struct, h]; rfl
set_option maxHeartbeats 3200000 in
set_option maxRecDepth 100000 in
theorem asked_2 (fb rb : Nat) (hne : fb ≠ rb) (rs : List Int) (t : Tup) (priv : Bool) (v reg : Int) (v0 : 0 ≤ v) (v1 : v ≤ 4294967295) (w : World) (hs : Rul w) (hF : IsFile w 63 fb rs) (hR : IsFile w 68 rb rs) :
    Calls Tryd.prog 12 #[.pointer (some ⟨fb, 0, none⟩), .pointer (some ⟨rb, 0, none⟩), .agg #[.int .i64 2, .int .i64 t.crn, .int .i64 t.op1, .int .i64 t.crm, .int .i64 t.op2, .bool priv, .int .u32 v, .int .i64 reg]] w (AskPost fb rb (writeR t priv v rs).2.2 w) := by
  have h0 := hF.alloc (.cells #[.int .i64 2, .int .i64 t.crn, .int .i64 t.op1, .int .i64 t.crm, .int .i64 t.op2, .bool priv, .int .u32 v, .int .i64 reg] 34)
  have r0 := hR.alloc (.cells #[.int .i64 2, .int .i64 t.crn, .int .i64 t.op1, .int .i64 t.crm, .int .i64 t.op2, .bool priv, .int .u32 v, .int .i64 reg] 34)
  have s0 := hs.alloc (.cells #[.int .i64 2, .int .i64 t.crn, .int .i64 t.op1, .int .i64 t.crm, .int .i64 t.op2, .bool priv, .int .u32 v, .int .i64 reg] 34)
  have t0 : Blok (w.alloc (.cells #[.int .i64 2, .int .i64 t.crn, .int .i64 t.op1, .int .i64 t.crm, .int .i64 t.op2, .bool priv, .int .u32 v, .int .i64 reg] 34)) w.heap.size 34 (#[.int .i64 2, .int .i64 t.crn, .int .i64 t.op1, .int .i64 t.crm, .int .i64 t.op2, .bool priv, .int .u32 v, .int .i64 reg] : Array Value).toList := Blok.new w _ _
  (have x0 : ((w.alloc (.cells #[.int .i64 2, .int .i64 t.crn, .int .i64 t.op1, .int .i64 t.crm, .int .i64 t.op2, .bool priv, .int .u32 v, .int .i64 reg] 34))).cell? ⟨w.heap.size, 0, none⟩ = some (.int .i64 2) := (t0).cell 0; have x1 : ((w.alloc (.cells #[.int .i64 2, .int .i64 t.crn, .int .i64 t.op1, .int .i64 t.crm, .int .i64 t.op2, .bool priv, .int .u32 v, .int .i64 reg] 34))).cell? ⟨w.heap.size, 1, none⟩ = some (.int .i64 t.crn) := (t0).cell 1; have x2 : ((w.alloc (.cells #[.int .i64 2, .int .i64 t.crn, .int .i64 t.op1, .int .i64 t.crm, .int .i64 t.op2, .bool priv, .int .u32 v, .int .i64 reg] 34))).cell? ⟨w.heap.size, 2, none⟩ = some (.int .i64 t.op1) := (t0).cell 2; have x3 : ((w.alloc (.cells #[.int .i64 2, .int .i64 t.crn, .int .i64 t.op1, .int .i64 t.crm, .int .i64 t.op2, .bool priv, .int .u32 v, .int .i64 reg] 34))).cell? ⟨w.heap.size, 3, none⟩ = some (.int .i64 t.crm) := (t0).cell 3; have x4 : ((w.alloc (.cells #[.int .i64 2, .int .i64 t.crn, .int .i64 t.op1, .int .i64 t.crm, .int .i64 t.op2, .bool priv, .int .u32 v, .int .i64 reg] 34))).cell? ⟨w.heap.size, 4, none⟩ = some (.int .i64 t.op2) := (t0).cell 4; have x5 : ((w.alloc (.cells #[.int .i64 2, .int .i64 t.crn, .int .i64 t.op1, .int .i64 t.crm, .int .i64 t.op2, .bool priv, .int .u32 v, .int .i64 reg] 34))).cell? ⟨w.heap.size, 5, none⟩ = some (.bool priv) := (t0).cell 5; have x6 : ((w.alloc (.cells #[.int .i64 2, .int .i64 t.crn, .int .i64 t.op1, .int .i64 t.crm, .int .i64 t.op2, .bool priv, .int .u32 v, .int .i64 reg] 34))).cell? ⟨w.heap.size, 6, none⟩ = some (.int .u32 v) := (t0).cell 6; have x7 : ((w.alloc (.cells #[.int .i64 2, .int .i64 t.crn, .int .i64 t.op1, .int .i64 t.crm, .int .i64 t.op2, .bool priv, .int .u32 v, .int .i64 reg] 34))).cell? ⟨w.heap.size, 7, none⟩ = some (.int .i64 reg) := (t0).cell 7)
  obtain ⟨a0, a1, a2, a3, a4, a5, a6, ha⟩ := writeR_act t priv v rs
  have heq := eql_act a0 a1 a2 a3 a4 a5 a6
  have RG0 := Write_is fb rs t priv v v0 v1 _ s0 h0
  have RF0 := fun W hW => refWrite_is rb rs t priv v v0 v1 W hW
  unfold WritePost at RG0 RF0
  obtain ⟨ee, rs', he, hr'⟩ : ∃ ee rs', (writeR t priv v rs).2.1 = ee ∧ (writeR t priv v rs).2.2 = rs' := ⟨_, _, rfl, rfl⟩
  rw [ha, he, hr'] at RG0
  simp only [ha, he, hr'] at RF0
  rw [hr']
  have RG := Lib.hid RG0
  have RF := Lib.hid RF0
  clear RG0 RF0 ha he hr' v0 v1
  have hfl := hF.b.lt
  have hrl := hR.b.lt
  go_enter Tryd.func12, Tryd.ntmps12
  go_wp2_with fail
  refine RG.out.mono ?_
  rintro e w1 ⟨rfl, hF1, hg1⟩
  have z1 := hg1.size
  simp at z1
  have q1 : w.heap.size < w1.heap.size := by omega
  have q2 : fb < w1.heap.size := by omega
  have q3 : rb < w1.heap.size := by omega
  clear z1
  have r1 := r0.far hg1 (by intro e; exact hne (Option.some.inj e))
  have t1 := t0.grown hg1 (by intro e; have := Option.some.inj e; omega)
  have g1 : GrownS w w1 (fun b => b = fb ∨ b = rb) := GrownS.unbox (GrownS.ofOne hg1 (Or.inl rfl))
  (have y0 : (w1).cell? ⟨w.heap.size, 0, none⟩ = some (.int .i64 2) := (t1).cell 0; have y1 : (w1).cell? ⟨w.heap.size, 1, none⟩ = some (.int .i64 t.crn) := (t1).cell 1; have y2 : (w1).cell? ⟨w.heap.size, 2, none⟩ = some (.int .i64 t.op1) := (t1).cell 2; have y3 : (w1).cell? ⟨w.heap.size, 3, none⟩ = some (.int .i64 t.crm) := (t1).cell 3; have y4 : (w1).cell? ⟨w.heap.size, 4, none⟩ = some (.int .i64 t.op2) := (t1).cell 4; have y5 : (w1).cell? ⟨w.heap.size, 5, none⟩ = some (.bool priv) := (t1).cell 5; have y6 : (w1).cell? ⟨w.heap.size, 6, none⟩ = some (.int .u32 v) := (t1).cell 6; have y7 : (w1).cell? ⟨w.heap.size, 7, none⟩ = some (.int .i64 reg) := (t1).cell 7)
  have ra := r1.alloc (.cells #[.int .i64 a0, .int .i64 a1, .int .u32 a2, .int .i64 a3, .int .u32 a4, .bool a5, .bool a6] 42)
  have fa := hF1.alloc (.cells #[.int .i64 a0, .int .i64 a1, .int .u32 a2, .int .i64 a3, .int .u32 a4, .bool a5, .bool a6] 42)
  have ta : Blok (w1.alloc (.cells #[.int .i64 a0, .int .i64 a1, .int .u32 a2, .int .i64 a3, .int .u32 a4, .bool a5, .bool a6] 42)) w1.heap.size 42 (#[.int .i64 a0, .int .i64 a1, .int .u32 a2, .int .i64 a3, .int .u32 a4, .bool a5, .bool a6] : Array Value).toList := Blok.new w1 _ _
  have ga := g1.alloc (.cells #[.int .i64 a0, .int .i64 a1, .int .u32 a2, .int .i64 a3, .int .u32 a4, .bool a5, .bool a6] 42)
  go_wp2_with fail
  refine (RF.out _ ra).mono ?_
  rintro e w2 ⟨rfl, hR2, hg2⟩
  have z2 := hg2.size
  simp at z2
  have p1 : w1.heap.size < w2.heap.size := by omega
  have fz := fa.far hg2 (by intro e; exact hne (Option.some.inj e).symm)
  have tz := ta.grown hg2 (by intro e; have := Option.some.inj e; omega)
  have g2 : GrownS w w2 (fun b => b = fb ∨ b = rb) := ga.one hg2 (Or.inr rfl)
  (have u0 : (w2).cell? ⟨w1.heap.size, 0, none⟩ = some (.int .i64 a0) := (tz).cell 0; have u1 : (w2).cell? ⟨w1.heap.size, 1, none⟩ = some (.int .i64 a1) := (tz).cell 1; have u2 : (w2).cell? ⟨w1.heap.size, 2, none⟩ = some (.int .u32 a2) := (tz).cell 2; have u3 : (w2).cell? ⟨w1.heap.size, 3, none⟩ = some (.int .i64 a3) := (tz).cell 3; have u4 : (w2).cell? ⟨w1.heap.size, 4, none⟩ = some (.int .u32 a4) := (tz).cell 4; have u5 : (w2).cell? ⟨w1.heap.size, 5, none⟩ = some (.bool a5) := (tz).cell 5; have u6 : (w2).cell? ⟨w1.heap.size, 6, none⟩ = some (.bool a6) := (tz).cell 6)
  clear z2
  go_wp2_with (go_at_call 16; refine (no8_is _ _).mono ?_; rintro e w3 ⟨rfl, rfl⟩)
  go_ret
  exact ⟨rfl, fz.alloc _, hR2.alloc _, g2.alloc _⟩
end Go.Proofs.YtakihcdolpocjaaDoor
