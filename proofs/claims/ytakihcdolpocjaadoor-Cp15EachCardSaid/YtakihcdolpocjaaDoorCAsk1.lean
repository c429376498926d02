/- The law's asked of layer 8: one call on both files. -/
import Derived.Test.YtakihcdolpocjaaDoorCLaw
import Derived.Test.YtakihcdolpocjaaDoorCRefW
namespace Go.Proofs.YtakihcdolpocjaaDoor
open Go.RowKit

def AskPost (fb rb : Nat) (rs' : List Int) (w : World) (e : Ending) (w' : World) : Prop :=
  e = .returned (.bool true) ∧ IsFile w' 63 fb rs' ∧ IsFile w' 68 rb rs' ∧ GrownS w w' (fun b => b = fb ∨ b = rb)
theorem AskPost.bel {fb rb : Nat} {rs : List Int} {w w' : World} (hF : IsFile w 63 fb rs) (hR : IsFile w 68 rb rs) (hb : Below w.heap.size w w') : AskPost fb rb rs w (.returned (.bool true)) w' :=
  ⟨rfl, hF.below hb, hR.below hb, GrownS.ofBelow hb⟩
theorem readRes_is (t : Tup) (priv : Bool) (rs : List Int) : ∃ x e : Int, readRes t priv rs = .tuple #[.int .u32 x, .int .i64 e] := by
  unfold readRes
  split
  · exact ⟨_, _, rfl⟩
  · split <;> exact ⟨_, _, rfl⟩
theorem regRes_is (t : Tup) : ∃ (x : Int) (b : Bool), regRes t = .tuple #[.int .i64 x, .bool b] := by
  unfold regRes
  split <;> exact ⟨_, _, rfl⟩
set_option maxHeartbeats 3200000 in
set_option maxRecDepth 100000 in
theorem asked_6 (fb rb : Nat) (rs : List Int) (t : Tup) (priv : Bool) (v reg : Int) (w : World) (hs : Rul w) (hF : IsFile w 63 fb rs) (hR : IsFile w 68 rb rs) :
    Calls Tryd.prog 12 #[.pointer (some ⟨fb, 0, none⟩), .pointer (some ⟨rb, 0, none⟩), .agg #[.int .i64 6, .int .i64 t.crn, .int .i64 t.op1, .int .i64 t.crm, .int .i64 t.op2, .bool priv, .int .u32 v, .int .i64 reg]] w (AskPost fb rb (rs) w) := by
  have h0 := hF.alloc (.cells #[.int .i64 6, .int .i64 t.crn, .int .i64 t.op1, .int .i64 t.crm, .int .i64 t.op2, .bool priv, .int .u32 v, .int .i64 reg] 34)
  have r0 := hR.alloc (.cells #[.int .i64 6, .int .i64 t.crn, .int .i64 t.op1, .int .i64 t.crm, .int .i64 t.op2, .bool priv, .int .u32 v, .int .i64 reg] 34)
  have s0 := hs.alloc (.cells #[.int .i64 6, .int .i64 t.crn, .int .i64 t.op1, .int .i64 t.crm, .int .i64 t.op2, .bool priv, .int .u32 v, .int .i64 reg] 34)
  have t0 : Blok (w.alloc (.cells #[.int .i64 6, .int .i64 t.crn, .int .i64 t.op1, .int .i64 t.crm, .int .i64 t.op2, .bool priv, .int .u32 v, .int .i64 reg] 34)) w.heap.size 34 (#[.int .i64 6, .int .i64 t.crn, .int .i64 t.op1, .int .i64 t.crm, .int .i64 t.op2, .bool priv, .int .u32 v, .int .i64 reg] : Array Value).toList := Blok.new w _ _
  (have x0 : ((w.alloc (.cells #[.int .i64 6, .int .i64 t.crn, .int .i64 t.op1, .int .i64 t.crm, .int .i64 t.op2, .bool priv, .int .u32 v, .int .i64 reg] 34))).cell? ⟨w.heap.size, 0, none⟩ = some (.int .i64 6) := (t0).cell 0; have x1 : ((w.alloc (.cells #[.int .i64 6, .int .i64 t.crn, .int .i64 t.op1, .int .i64 t.crm, .int .i64 t.op2, .bool priv, .int .u32 v, .int .i64 reg] 34))).cell? ⟨w.heap.size, 1, none⟩ = some (.int .i64 t.crn) := (t0).cell 1; have x2 : ((w.alloc (.cells #[.int .i64 6, .int .i64 t.crn, .int .i64 t.op1, .int .i64 t.crm, .int .i64 t.op2, .bool priv, .int .u32 v, .int .i64 reg] 34))).cell? ⟨w.heap.size, 2, none⟩ = some (.int .i64 t.op1) := (t0).cell 2; have x3 : ((w.alloc (.cells #[.int .i64 6, .int .i64 t.crn, .int .i64 t.op1, .int .i64 t.crm, .int .i64 t.op2, .bool priv, .int .u32 v, .int .i64 reg] 34))).cell? ⟨w.heap.size, 3, none⟩ = some (.int .i64 t.crm) := (t0).cell 3; have x4 : ((w.alloc (.cells #[.int .i64 6, .int .i64 t.crn, .int .i64 t.op1, .int .i64 t.crm, .int .i64 t.op2, .bool priv, .int .u32 v, .int .i64 reg] 34))).cell? ⟨w.heap.size, 4, none⟩ = some (.int .i64 t.op2) := (t0).cell 4; have x5 : ((w.alloc (.cells #[.int .i64 6, .int .i64 t.crn, .int .i64 t.op1, .int .i64 t.crm, .int .i64 t.op2, .bool priv, .int .u32 v, .int .i64 reg] 34))).cell? ⟨w.heap.size, 5, none⟩ = some (.bool priv) := (t0).cell 5; have x6 : ((w.alloc (.cells #[.int .i64 6, .int .i64 t.crn, .int .i64 t.op1, .int .i64 t.crm, .int .i64 t.op2, .bool priv, .int .u32 v, .int .i64 reg] 34))).cell? ⟨w.heap.size, 6, none⟩ = some (.int .u32 v) := (t0).cell 6; have x7 : ((w.alloc (.cells #[.int .i64 6, .int .i64 t.crn, .int .i64 t.op1, .int .i64 t.crm, .int .i64 t.op2, .bool priv, .int .u32 v, .int .i64 reg] 34))).cell? ⟨w.heap.size, 7, none⟩ = some (.int .i64 reg) := (t0).cell 7)
  obtain ⟨x, b, hx⟩ := regRes_is t
  have RG0 := Register_is t _ s0
  have RF0 := fun W => refRegister_is t W
  rw [hx] at RG0
  simp only [hx] at RF0
  have RG := Lib.hid RG0
  have RF := Lib.hid RF0
  clear RG0 RF0 hx
  go_enter Tryd.func12, Tryd.ntmps12
  go_wp2_with fail
  refine RG.out.mono ?_
  rintro e w1 ⟨rfl, hB1⟩
  have h1 := h0.below hB1
  have r1 := r0.below hB1
  have s1 := s0.below hB1
  have t1 := t0.below hB1 t0.lt
  (have y0 : (w1).cell? ⟨w.heap.size, 0, none⟩ = some (.int .i64 6) := (t1).cell 0; have y1 : (w1).cell? ⟨w.heap.size, 1, none⟩ = some (.int .i64 t.crn) := (t1).cell 1; have y2 : (w1).cell? ⟨w.heap.size, 2, none⟩ = some (.int .i64 t.op1) := (t1).cell 2; have y3 : (w1).cell? ⟨w.heap.size, 3, none⟩ = some (.int .i64 t.crm) := (t1).cell 3; have y4 : (w1).cell? ⟨w.heap.size, 4, none⟩ = some (.int .i64 t.op2) := (t1).cell 4; have y5 : (w1).cell? ⟨w.heap.size, 5, none⟩ = some (.bool priv) := (t1).cell 5; have y6 : (w1).cell? ⟨w.heap.size, 6, none⟩ = some (.int .u32 v) := (t1).cell 6; have y7 : (w1).cell? ⟨w.heap.size, 7, none⟩ = some (.int .i64 reg) := (t1).cell 7)
  go_wp2_with (go_at_call 28; refine (RF.out _).mono ?_; rintro e w2 ⟨rfl, hB2⟩)
  go_ret
  exact AskPost.bel hF hR (bthen (bbox (by simpa using hB1)) hB2)
set_option maxHeartbeats 3200000 in
set_option maxRecDepth 100000 in
theorem asked_1 (fb rb : Nat) (rs : List Int) (t : Tup) (priv : Bool) (v reg : Int) (w : World) (hs : Rul w) (hF : IsFile w 63 fb rs) (hR : IsFile w 68 rb rs) :
    Calls Tryd.prog 12 #[.pointer (some ⟨fb, 0, none⟩), .pointer (some ⟨rb, 0, none⟩), .agg #[.int .i64 1, .int .i64 t.crn, .int .i64 t.op1, .int .i64 t.crm, .int .i64 t.op2, .bool priv, .int .u32 v, .int .i64 reg]] w (AskPost fb rb (rs) w) := by
  have h0 := hF.alloc (.cells #[.int .i64 1, .int .i64 t.crn, .int .i64 t.op1, .int .i64 t.crm, .int .i64 t.op2, .bool priv, .int .u32 v, .int .i64 reg] 34)
  have r0 := hR.alloc (.cells #[.int .i64 1, .int .i64 t.crn, .int .i64 t.op1, .int .i64 t.crm, .int .i64 t.op2, .bool priv, .int .u32 v, .int .i64 reg] 34)
  have s0 := hs.alloc (.cells #[.int .i64 1, .int .i64 t.crn, .int .i64 t.op1, .int .i64 t.crm, .int .i64 t.op2, .bool priv, .int .u32 v, .int .i64 reg] 34)
  have t0 : Blok (w.alloc (.cells #[.int .i64 1, .int .i64 t.crn, .int .i64 t.op1, .int .i64 t.crm, .int .i64 t.op2, .bool priv, .int .u32 v, .int .i64 reg] 34)) w.heap.size 34 (#[.int .i64 1, .int .i64 t.crn, .int .i64 t.op1, .int .i64 t.crm, .int .i64 t.op2, .bool priv, .int .u32 v, .int .i64 reg] : Array Value).toList := Blok.new w _ _
  (have x0 : ((w.alloc (.cells #[.int .i64 1, .int .i64 t.crn, .int .i64 t.op1, .int .i64 t.crm, .int .i64 t.op2, .bool priv, .int .u32 v, .int .i64 reg] 34))).cell? ⟨w.heap.size, 0, none⟩ = some (.int .i64 1) := (t0).cell 0; have x1 : ((w.alloc (.cells #[.int .i64 1, .int .i64 t.crn, .int .i64 t.op1, .int .i64 t.crm, .int .i64 t.op2, .bool priv, .int .u32 v, .int .i64 reg] 34))).cell? ⟨w.heap.size, 1, none⟩ = some (.int .i64 t.crn) := (t0).cell 1; have x2 : ((w.alloc (.cells #[.int .i64 1, .int .i64 t.crn, .int .i64 t.op1, .int .i64 t.crm, .int .i64 t.op2, .bool priv, .int .u32 v, .int .i64 reg] 34))).cell? ⟨w.heap.size, 2, none⟩ = some (.int .i64 t.op1) := (t0).cell 2; have x3 : ((w.alloc (.cells #[.int .i64 1, .int .i64 t.crn, .int .i64 t.op1, .int .i64 t.crm, .int .i64 t.op2, .bool priv, .int .u32 v, .int .i64 reg] 34))).cell? ⟨w.heap.size, 3, none⟩ = some (.int .i64 t.crm) := (t0).cell 3; have x4 : ((w.alloc (.cells #[.int .i64 1, .int .i64 t.crn, .int .i64 t.op1, .int .i64 t.crm, .int .i64 t.op2, .bool priv, .int .u32 v, .int .i64 reg] 34))).cell? ⟨w.heap.size, 4, none⟩ = some (.int .i64 t.op2) := (t0).cell 4; have x5 : ((w.alloc (.cells #[.int .i64 1, .int .i64 t.crn, .int .i64 t.op1, .int .i64 t.crm, .int .i64 t.op2, .bool priv, .int .u32 v, .int .i64 reg] 34))).cell? ⟨w.heap.size, 5, none⟩ = some (.bool priv) := (t0).cell 5; have x6 : ((w.alloc (.cells #[.int .i64 1, .int .i64 t.crn, .int .i64 t.op1, .int .i64 t.crm, .int .i64 t.op2, .bool priv, .int .u32 v, .int .i64 reg] 34))).cell? ⟨w.heap.size, 6, none⟩ = some (.int .u32 v) := (t0).cell 6; have x7 : ((w.alloc (.cells #[.int .i64 1, .int .i64 t.crn, .int .i64 t.op1, .int .i64 t.crm, .int .i64 t.op2, .bool priv, .int .u32 v, .int .i64 reg] 34))).cell? ⟨w.heap.size, 7, none⟩ = some (.int .i64 reg) := (t0).cell 7)
  obtain ⟨x, b, hx⟩ := readRes_is t priv rs
  have RG0 := Read_is fb rs t priv _ s0 h0
  have RF0 := fun W hW => refRead_is rb rs t priv W hW
  rw [hx] at RG0
  simp only [hx] at RF0
  have RG := Lib.hid RG0
  have RF := Lib.hid RF0
  clear RG0 RF0 hx
  go_enter Tryd.func12, Tryd.ntmps12
  go_wp2_with fail
  refine RG.out.mono ?_
  rintro e w1 ⟨rfl, hB1⟩
  have h1 := h0.below hB1
  have r1 := r0.below hB1
  have s1 := s0.below hB1
  have t1 := t0.below hB1 t0.lt
  (have y0 : (w1).cell? ⟨w.heap.size, 0, none⟩ = some (.int .i64 1) := (t1).cell 0; have y1 : (w1).cell? ⟨w.heap.size, 1, none⟩ = some (.int .i64 t.crn) := (t1).cell 1; have y2 : (w1).cell? ⟨w.heap.size, 2, none⟩ = some (.int .i64 t.op1) := (t1).cell 2; have y3 : (w1).cell? ⟨w.heap.size, 3, none⟩ = some (.int .i64 t.crm) := (t1).cell 3; have y4 : (w1).cell? ⟨w.heap.size, 4, none⟩ = some (.int .i64 t.op2) := (t1).cell 4; have y5 : (w1).cell? ⟨w.heap.size, 5, none⟩ = some (.bool priv) := (t1).cell 5; have y6 : (w1).cell? ⟨w.heap.size, 6, none⟩ = some (.int .u32 v) := (t1).cell 6; have y7 : (w1).cell? ⟨w.heap.size, 7, none⟩ = some (.int .i64 reg) := (t1).cell 7)
  go_wp2_with fail
  refine (RF.out _ r1).mono ?_
  rintro e w2 ⟨rfl, hB2⟩
  go_wp2_with (go_at_call 16; refine (no8_is _ _).mono ?_; rintro e w3 ⟨rfl, rfl⟩)
  go_ret
  exact AskPost.bel hF hR (bthen (bbox (by simpa using hB1)) hB2)
set_option maxHeartbeats 3200000 in
set_option maxRecDepth 100000 in
theorem asked_3_yes (fb rb : Nat) (rs : List Int) (t : Tup) (priv : Bool) (v reg : Int) (k : Nat) (hk : k < 13) (hreg : reg = ↑k) (w : World) (hs : Rul w) (hF : IsFile w 63 fb rs) (hR : IsFile w 68 rb rs) :
    Calls Tryd.prog 12 #[.pointer (some ⟨fb, 0, none⟩), .pointer (some ⟨rb, 0, none⟩), .agg #[.int .i64 3, .int .i64 t.crn, .int .i64 t.op1, .int .i64 t.crm, .int .i64 t.op2, .bool priv, .int .u32 v, .int .i64 reg]] w (AskPost fb rb (rs) w) := by
  subst hreg
  have h0 := hF.alloc (.cells #[.int .i64 3, .int .i64 t.crn, .int .i64 t.op1, .int .i64 t.crm, .int .i64 t.op2, .bool priv, .int .u32 v, .int .i64 ↑k] 34)
  have r0 := hR.alloc (.cells #[.int .i64 3, .int .i64 t.crn, .int .i64 t.op1, .int .i64 t.crm, .int .i64 t.op2, .bool priv, .int .u32 v, .int .i64 ↑k] 34)
  have s0 := hs.alloc (.cells #[.int .i64 3, .int .i64 t.crn, .int .i64 t.op1, .int .i64 t.crm, .int .i64 t.op2, .bool priv, .int .u32 v, .int .i64 ↑k] 34)
  have t0 : Blok (w.alloc (.cells #[.int .i64 3, .int .i64 t.crn, .int .i64 t.op1, .int .i64 t.crm, .int .i64 t.op2, .bool priv, .int .u32 v, .int .i64 ↑k] 34)) w.heap.size 34 (#[.int .i64 3, .int .i64 t.crn, .int .i64 t.op1, .int .i64 t.crm, .int .i64 t.op2, .bool priv, .int .u32 v, .int .i64 ↑k] : Array Value).toList := Blok.new w _ _
  (have x0 : ((w.alloc (.cells #[.int .i64 3, .int .i64 t.crn, .int .i64 t.op1, .int .i64 t.crm, .int .i64 t.op2, .bool priv, .int .u32 v, .int .i64 ↑k] 34))).cell? ⟨w.heap.size, 0, none⟩ = some (.int .i64 3) := (t0).cell 0; have x1 : ((w.alloc (.cells #[.int .i64 3, .int .i64 t.crn, .int .i64 t.op1, .int .i64 t.crm, .int .i64 t.op2, .bool priv, .int .u32 v, .int .i64 ↑k] 34))).cell? ⟨w.heap.size, 1, none⟩ = some (.int .i64 t.crn) := (t0).cell 1; have x2 : ((w.alloc (.cells #[.int .i64 3, .int .i64 t.crn, .int .i64 t.op1, .int .i64 t.crm, .int .i64 t.op2, .bool priv, .int .u32 v, .int .i64 ↑k] 34))).cell? ⟨w.heap.size, 2, none⟩ = some (.int .i64 t.op1) := (t0).cell 2; have x3 : ((w.alloc (.cells #[.int .i64 3, .int .i64 t.crn, .int .i64 t.op1, .int .i64 t.crm, .int .i64 t.op2, .bool priv, .int .u32 v, .int .i64 ↑k] 34))).cell? ⟨w.heap.size, 3, none⟩ = some (.int .i64 t.crm) := (t0).cell 3; have x4 : ((w.alloc (.cells #[.int .i64 3, .int .i64 t.crn, .int .i64 t.op1, .int .i64 t.crm, .int .i64 t.op2, .bool priv, .int .u32 v, .int .i64 ↑k] 34))).cell? ⟨w.heap.size, 4, none⟩ = some (.int .i64 t.op2) := (t0).cell 4; have x5 : ((w.alloc (.cells #[.int .i64 3, .int .i64 t.crn, .int .i64 t.op1, .int .i64 t.crm, .int .i64 t.op2, .bool priv, .int .u32 v, .int .i64 ↑k] 34))).cell? ⟨w.heap.size, 5, none⟩ = some (.bool priv) := (t0).cell 5; have x6 : ((w.alloc (.cells #[.int .i64 3, .int .i64 t.crn, .int .i64 t.op1, .int .i64 t.crm, .int .i64 t.op2, .bool priv, .int .u32 v, .int .i64 ↑k] 34))).cell? ⟨w.heap.size, 6, none⟩ = some (.int .u32 v) := (t0).cell 6; have x7 : ((w.alloc (.cells #[.int .i64 3, .int .i64 t.crn, .int .i64 t.op1, .int .i64 t.crm, .int .i64 t.op2, .bool priv, .int .u32 v, .int .i64 ↑k] 34))).cell? ⟨w.heap.size, 7, none⟩ = some (.int .i64 ↑k) := (t0).cell 7)
  have RG := Lib.hid (Get_yes 63 fb rs k hk _ h0)
  have RF := Lib.hid (refGet_yes rb rs k hk _ r0)
  go_enter Tryd.func12, Tryd.ntmps12
  go_wp2_with fail
  refine RG.out.mono ?_
  rintro e w1 ⟨rfl, rfl⟩
  go_wp2_with fail
  refine RF.out.mono ?_
  rintro e w2 ⟨rfl, rfl⟩
  go_wp2_with (go_at_call 16; refine (no8_is _ _).mono ?_; rintro e w3 ⟨rfl, rfl⟩)
  go_ret
  exact AskPost.bel hF hR ((Below.refl _ _).alloc (Nat.le_refl _) _)
set_option maxHeartbeats 3200000 in
set_option maxRecDepth 100000 in
theorem asked_3_no (fb rb : Nat) (rs : List Int) (t : Tup) (priv : Bool) (v reg : Int) (hk : reg < 0 ∨ 13 ≤ reg) (w : World) (hs : Rul w) (hF : IsFile w 63 fb rs) (hR : IsFile w 68 rb rs) :
    Calls Tryd.prog 12 #[.pointer (some ⟨fb, 0, none⟩), .pointer (some ⟨rb, 0, none⟩), .agg #[.int .i64 3, .int .i64 t.crn, .int .i64 t.op1, .int .i64 t.crm, .int .i64 t.op2, .bool priv, .int .u32 v, .int .i64 reg]] w (AskPost fb rb (rs) w) := by
  have h0 := hF.alloc (.cells #[.int .i64 3, .int .i64 t.crn, .int .i64 t.op1, .int .i64 t.crm, .int .i64 t.op2, .bool priv, .int .u32 v, .int .i64 reg] 34)
  have r0 := hR.alloc (.cells #[.int .i64 3, .int .i64 t.crn, .int .i64 t.op1, .int .i64 t.crm, .int .i64 t.op2, .bool priv, .int .u32 v, .int .i64 reg] 34)
  have s0 := hs.alloc (.cells #[.int .i64 3, .int .i64 t.crn, .int .i64 t.op1, .int .i64 t.crm, .int .i64 t.op2, .bool priv, .int .u32 v, .int .i64 reg] 34)
  have t0 : Blok (w.alloc (.cells #[.int .i64 3, .int .i64 t.crn, .int .i64 t.op1, .int .i64 t.crm, .int .i64 t.op2, .bool priv, .int .u32 v, .int .i64 reg] 34)) w.heap.size 34 (#[.int .i64 3, .int .i64 t.crn, .int .i64 t.op1, .int .i64 t.crm, .int .i64 t.op2, .bool priv, .int .u32 v, .int .i64 reg] : Array Value).toList := Blok.new w _ _
  (have x0 : ((w.alloc (.cells #[.int .i64 3, .int .i64 t.crn, .int .i64 t.op1, .int .i64 t.crm, .int .i64 t.op2, .bool priv, .int .u32 v, .int .i64 reg] 34))).cell? ⟨w.heap.size, 0, none⟩ = some (.int .i64 3) := (t0).cell 0; have x1 : ((w.alloc (.cells #[.int .i64 3, .int .i64 t.crn, .int .i64 t.op1, .int .i64 t.crm, .int .i64 t.op2, .bool priv, .int .u32 v, .int .i64 reg] 34))).cell? ⟨w.heap.size, 1, none⟩ = some (.int .i64 t.crn) := (t0).cell 1; have x2 : ((w.alloc (.cells #[.int .i64 3, .int .i64 t.crn, .int .i64 t.op1, .int .i64 t.crm, .int .i64 t.op2, .bool priv, .int .u32 v, .int .i64 reg] 34))).cell? ⟨w.heap.size, 2, none⟩ = some (.int .i64 t.op1) := (t0).cell 2; have x3 : ((w.alloc (.cells #[.int .i64 3, .int .i64 t.crn, .int .i64 t.op1, .int .i64 t.crm, .int .i64 t.op2, .bool priv, .int .u32 v, .int .i64 reg] 34))).cell? ⟨w.heap.size, 3, none⟩ = some (.int .i64 t.crm) := (t0).cell 3; have x4 : ((w.alloc (.cells #[.int .i64 3, .int .i64 t.crn, .int .i64 t.op1, .int .i64 t.crm, .int .i64 t.op2, .bool priv, .int .u32 v, .int .i64 reg] 34))).cell? ⟨w.heap.size, 4, none⟩ = some (.int .i64 t.op2) := (t0).cell 4; have x5 : ((w.alloc (.cells #[.int .i64 3, .int .i64 t.crn, .int .i64 t.op1, .int .i64 t.crm, .int .i64 t.op2, .bool priv, .int .u32 v, .int .i64 reg] 34))).cell? ⟨w.heap.size, 5, none⟩ = some (.bool priv) := (t0).cell 5; have x6 : ((w.alloc (.cells #[.int .i64 3, .int .i64 t.crn, .int .i64 t.op1, .int .i64 t.crm, .int .i64 t.op2, .bool priv, .int .u32 v, .int .i64 reg] 34))).cell? ⟨w.heap.size, 6, none⟩ = some (.int .u32 v) := (t0).cell 6; have x7 : ((w.alloc (.cells #[.int .i64 3, .int .i64 t.crn, .int .i64 t.op1, .int .i64 t.crm, .int .i64 t.op2, .bool priv, .int .u32 v, .int .i64 reg] 34))).cell? ⟨w.heap.size, 7, none⟩ = some (.int .i64 reg) := (t0).cell 7)
  have RG := Lib.hid (fun W => Get_no ⟨fb, 0, none⟩ reg hk W)
  have RF := Lib.hid (fun W => refGet_no ⟨rb, 0, none⟩ reg hk W)
  clear hk
  go_enter Tryd.func12, Tryd.ntmps12
  go_wp2_with fail
  refine (RG.out _).mono ?_
  rintro e w1 ⟨rfl, rfl⟩
  go_wp2_with fail
  refine (RF.out _).mono ?_
  rintro e w2 ⟨rfl, rfl⟩
  go_wp2_with (go_at_call 16; refine (no8_is _ _).mono ?_; rintro e w3 ⟨rfl, rfl⟩)
  go_ret
  exact AskPost.bel hF hR ((Below.refl _ _).alloc (Nat.le_refl _) _)
set_option maxHeartbeats 3200000 in
set_option maxRecDepth 100000 in
theorem asked_5 (fb rb : Nat) (rs : List Int) (t : Tup) (priv : Bool) (v reg : Int) (k : Int) (n1 : k ≠ 1) (n2 : k ≠ 2) (n3 : k ≠ 3) (n4 : k ≠ 4) (n6 : k ≠ 6) (hok : RegsOk rs) (w : World) (hs : Rul w) (hF : IsFile w 63 fb rs) (hR : IsFile w 68 rb rs) :
    Calls Tryd.prog 12 #[.pointer (some ⟨fb, 0, none⟩), .pointer (some ⟨rb, 0, none⟩), .agg #[.int .i64 k, .int .i64 t.crn, .int .i64 t.op1, .int .i64 t.crm, .int .i64 t.op2, .bool priv, .int .u32 v, .int .i64 reg]] w (AskPost fb rb (rs) w) := by
  have h0 := hF.alloc (.cells #[.int .i64 k, .int .i64 t.crn, .int .i64 t.op1, .int .i64 t.crm, .int .i64 t.op2, .bool priv, .int .u32 v, .int .i64 reg] 34)
  have r0 := hR.alloc (.cells #[.int .i64 k, .int .i64 t.crn, .int .i64 t.op1, .int .i64 t.crm, .int .i64 t.op2, .bool priv, .int .u32 v, .int .i64 reg] 34)
  have s0 := hs.alloc (.cells #[.int .i64 k, .int .i64 t.crn, .int .i64 t.op1, .int .i64 t.crm, .int .i64 t.op2, .bool priv, .int .u32 v, .int .i64 reg] 34)
  have t0 : Blok (w.alloc (.cells #[.int .i64 k, .int .i64 t.crn, .int .i64 t.op1, .int .i64 t.crm, .int .i64 t.op2, .bool priv, .int .u32 v, .int .i64 reg] 34)) w.heap.size 34 (#[.int .i64 k, .int .i64 t.crn, .int .i64 t.op1, .int .i64 t.crm, .int .i64 t.op2, .bool priv, .int .u32 v, .int .i64 reg] : Array Value).toList := Blok.new w _ _
  (have x0 : ((w.alloc (.cells #[.int .i64 k, .int .i64 t.crn, .int .i64 t.op1, .int .i64 t.crm, .int .i64 t.op2, .bool priv, .int .u32 v, .int .i64 reg] 34))).cell? ⟨w.heap.size, 0, none⟩ = some (.int .i64 k) := (t0).cell 0; have x1 : ((w.alloc (.cells #[.int .i64 k, .int .i64 t.crn, .int .i64 t.op1, .int .i64 t.crm, .int .i64 t.op2, .bool priv, .int .u32 v, .int .i64 reg] 34))).cell? ⟨w.heap.size, 1, none⟩ = some (.int .i64 t.crn) := (t0).cell 1; have x2 : ((w.alloc (.cells #[.int .i64 k, .int .i64 t.crn, .int .i64 t.op1, .int .i64 t.crm, .int .i64 t.op2, .bool priv, .int .u32 v, .int .i64 reg] 34))).cell? ⟨w.heap.size, 2, none⟩ = some (.int .i64 t.op1) := (t0).cell 2; have x3 : ((w.alloc (.cells #[.int .i64 k, .int .i64 t.crn, .int .i64 t.op1, .int .i64 t.crm, .int .i64 t.op2, .bool priv, .int .u32 v, .int .i64 reg] 34))).cell? ⟨w.heap.size, 3, none⟩ = some (.int .i64 t.crm) := (t0).cell 3; have x4 : ((w.alloc (.cells #[.int .i64 k, .int .i64 t.crn, .int .i64 t.op1, .int .i64 t.crm, .int .i64 t.op2, .bool priv, .int .u32 v, .int .i64 reg] 34))).cell? ⟨w.heap.size, 4, none⟩ = some (.int .i64 t.op2) := (t0).cell 4; have x5 : ((w.alloc (.cells #[.int .i64 k, .int .i64 t.crn, .int .i64 t.op1, .int .i64 t.crm, .int .i64 t.op2, .bool priv, .int .u32 v, .int .i64 reg] 34))).cell? ⟨w.heap.size, 5, none⟩ = some (.bool priv) := (t0).cell 5; have x6 : ((w.alloc (.cells #[.int .i64 k, .int .i64 t.crn, .int .i64 t.op1, .int .i64 t.crm, .int .i64 t.op2, .bool priv, .int .u32 v, .int .i64 reg] 34))).cell? ⟨w.heap.size, 6, none⟩ = some (.int .u32 v) := (t0).cell 6; have x7 : ((w.alloc (.cells #[.int .i64 k, .int .i64 t.crn, .int .i64 t.op1, .int .i64 t.crm, .int .i64 t.op2, .bool priv, .int .u32 v, .int .i64 reg] 34))).cell? ⟨w.heap.size, 7, none⟩ = some (.int .i64 reg) := (t0).cell 7)
  have heq := eql_ctx rs
  have RG := Lib.hid (Context_is fb rs hok _ h0)
  have RF := Lib.hid (fun W hW => refContext_is rb rs hok W hW)
  go_enter Tryd.func12, Tryd.ntmps12
  go_wp2_with fail
  refine RG.out.mono ?_
  rintro e w1 ⟨rfl, hB1⟩
  have h1 := h0.below hB1
  have r1 := r0.below hB1
  have s1 := s0.below hB1
  have t1 := t0.below hB1 t0.lt
  go_wp2_with fail
  refine (RF.out _ r1).mono ?_
  rintro e w2 ⟨rfl, hB2⟩
  go_wp2
  go_ret
  exact AskPost.bel hF hR (bthen (bbox (by simpa using hB1)) hB2)
end Go.Proofs.YtakihcdolpocjaaDoor
