/- The law's does of layer 8: Write; all kinds. -/
import Derived.Test.YtakihcdolpocjaaDoorCDoes
import Derived.Test.YtakihcdolpocjaaDoorCHeld
import Derived.Test.YtakihcdolpocjaaDoorCPlays
namespace Go.Proofs.YtakihcdolpocjaaDoor
open Go.RowKit

set_option maxHeartbeats 3200000 in
set_option maxRecDepth 100000 in
theorem does_2 (fb : Nat) (rs : List Int) (t : Tup) (priv : Bool) (v reg : Int) (v0 : 0 ≤ v) (v1 : v ≤ 4294967295) (w : World) (hs : Rul w) (h : IsFile w 63 fb rs) :
    Calls Tryd.prog 14 #[.pointer (some ⟨fb, 0, none⟩), .agg #[.int .i64 2, .int .i64 t.crn, .int .i64 t.op1, .int .i64 t.crm, .int .i64 t.op2, .bool priv, .int .u32 v, .int .i64 reg]] w (DoesPost 63 fb (writeR t priv v rs) w) := by
  have h0 := (h.alloc (.cells #[.int .i64 2, .int .i64 t.crn, .int .i64 t.op1, .int .i64 t.crm, .int .i64 t.op2, .bool priv, .int .u32 v, .int .i64 reg] 34)).alloc (.cells #[.int .i64 0, .int .i64 0, .int .u32 0, .int .i64 0, .int .u32 0, .bool false, .bool false] 42)
  have s0 := (hs.alloc (.cells #[.int .i64 2, .int .i64 t.crn, .int .i64 t.op1, .int .i64 t.crm, .int .i64 t.op2, .bool priv, .int .u32 v, .int .i64 reg] 34)).alloc (.cells #[.int .i64 0, .int .i64 0, .int .u32 0, .int .i64 0, .int .u32 0, .bool false, .bool false] 42)
  have t0 : Blok ((w.alloc (.cells #[.int .i64 2, .int .i64 t.crn, .int .i64 t.op1, .int .i64 t.crm, .int .i64 t.op2, .bool priv, .int .u32 v, .int .i64 reg] 34)).alloc (.cells #[.int .i64 0, .int .i64 0, .int .u32 0, .int .i64 0, .int .u32 0, .bool false, .bool false] 42)) w.heap.size 34 (#[.int .i64 2, .int .i64 t.crn, .int .i64 t.op1, .int .i64 t.crm, .int .i64 t.op2, .bool priv, .int .u32 v, .int .i64 reg] : Array Value).toList := (Blok.new w _ _).alloc _
  have z0 : Blok ((w.alloc (.cells #[.int .i64 2, .int .i64 t.crn, .int .i64 t.op1, .int .i64 t.crm, .int .i64 t.op2, .bool priv, .int .u32 v, .int .i64 reg] 34)).alloc (.cells #[.int .i64 0, .int .i64 0, .int .u32 0, .int .i64 0, .int .u32 0, .bool false, .bool false] 42)) (w.heap.size + 1) 42 (#[.int .i64 0, .int .i64 0, .int .u32 0, .int .i64 0, .int .u32 0, .bool false, .bool false] : Array Value).toList := by
    have := Blok.new (w.alloc (.cells #[.int .i64 2, .int .i64 t.crn, .int .i64 t.op1, .int .i64 t.crm, .int .i64 t.op2, .bool priv, .int .u32 v, .int .i64 reg] 34)) 42 (#[.int .i64 0, .int .i64 0, .int .u32 0, .int .i64 0, .int .u32 0, .bool false, .bool false] : Array Value).toList
    have e : (w.alloc (.cells #[.int .i64 2, .int .i64 t.crn, .int .i64 t.op1, .int .i64 t.crm, .int .i64 t.op2, .bool priv, .int .u32 v, .int .i64 reg] 34)).heap.size = w.heap.size + 1 := by simp
    rwa [e] at this
  have b0 : Below w.heap.size w ((w.alloc (.cells #[.int .i64 2, .int .i64 t.crn, .int .i64 t.op1, .int .i64 t.crm, .int .i64 t.op2, .bool priv, .int .u32 v, .int .i64 reg] 34)).alloc (.cells #[.int .i64 0, .int .i64 0, .int .u32 0, .int .i64 0, .int .u32 0, .bool false, .bool false] 42)) := ((Below.refl _ _).alloc (Nat.le_refl _) _).alloc (by simp) _
  have hfl := h.b.lt
  (have x0 : (((w.alloc (.cells #[.int .i64 2, .int .i64 t.crn, .int .i64 t.op1, .int .i64 t.crm, .int .i64 t.op2, .bool priv, .int .u32 v, .int .i64 reg] 34)).alloc (.cells #[.int .i64 0, .int .i64 0, .int .u32 0, .int .i64 0, .int .u32 0, .bool false, .bool false] 42))).cell? ⟨w.heap.size, 0, none⟩ = some (.int .i64 2) := (t0).cell 0; have x1 : (((w.alloc (.cells #[.int .i64 2, .int .i64 t.crn, .int .i64 t.op1, .int .i64 t.crm, .int .i64 t.op2, .bool priv, .int .u32 v, .int .i64 reg] 34)).alloc (.cells #[.int .i64 0, .int .i64 0, .int .u32 0, .int .i64 0, .int .u32 0, .bool false, .bool false] 42))).cell? ⟨w.heap.size, 1, none⟩ = some (.int .i64 t.crn) := (t0).cell 1; have x2 : (((w.alloc (.cells #[.int .i64 2, .int .i64 t.crn, .int .i64 t.op1, .int .i64 t.crm, .int .i64 t.op2, .bool priv, .int .u32 v, .int .i64 reg] 34)).alloc (.cells #[.int .i64 0, .int .i64 0, .int .u32 0, .int .i64 0, .int .u32 0, .bool false, .bool false] 42))).cell? ⟨w.heap.size, 2, none⟩ = some (.int .i64 t.op1) := (t0).cell 2; have x3 : (((w.alloc (.cells #[.int .i64 2, .int .i64 t.crn, .int .i64 t.op1, .int .i64 t.crm, .int .i64 t.op2, .bool priv, .int .u32 v, .int .i64 reg] 34)).alloc (.cells #[.int .i64 0, .int .i64 0, .int .u32 0, .int .i64 0, .int .u32 0, .bool false, .bool false] 42))).cell? ⟨w.heap.size, 3, none⟩ = some (.int .i64 t.crm) := (t0).cell 3; have x4 : (((w.alloc (.cells #[.int .i64 2, .int .i64 t.crn, .int .i64 t.op1, .int .i64 t.crm, .int .i64 t.op2, .bool priv, .int .u32 v, .int .i64 reg] 34)).alloc (.cells #[.int .i64 0, .int .i64 0, .int .u32 0, .int .i64 0, .int .u32 0, .bool false, .bool false] 42))).cell? ⟨w.heap.size, 4, none⟩ = some (.int .i64 t.op2) := (t0).cell 4; have x5 : (((w.alloc (.cells #[.int .i64 2, .int .i64 t.crn, .int .i64 t.op1, .int .i64 t.crm, .int .i64 t.op2, .bool priv, .int .u32 v, .int .i64 reg] 34)).alloc (.cells #[.int .i64 0, .int .i64 0, .int .u32 0, .int .i64 0, .int .u32 0, .bool false, .bool false] 42))).cell? ⟨w.heap.size, 5, none⟩ = some (.bool priv) := (t0).cell 5; have x6 : (((w.alloc (.cells #[.int .i64 2, .int .i64 t.crn, .int .i64 t.op1, .int .i64 t.crm, .int .i64 t.op2, .bool priv, .int .u32 v, .int .i64 reg] 34)).alloc (.cells #[.int .i64 0, .int .i64 0, .int .u32 0, .int .i64 0, .int .u32 0, .bool false, .bool false] 42))).cell? ⟨w.heap.size, 6, none⟩ = some (.int .u32 v) := (t0).cell 6; have x7 : (((w.alloc (.cells #[.int .i64 2, .int .i64 t.crn, .int .i64 t.op1, .int .i64 t.crm, .int .i64 t.op2, .bool priv, .int .u32 v, .int .i64 reg] 34)).alloc (.cells #[.int .i64 0, .int .i64 0, .int .u32 0, .int .i64 0, .int .u32 0, .bool false, .bool false] 42))).cell? ⟨w.heap.size, 7, none⟩ = some (.int .i64 reg) := (t0).cell 7)
  obtain ⟨a0, a1, a2, a3, a4, a5, a6, ha⟩ := writeR_act t priv v rs
  have RG0 := Write_is fb rs t priv v v0 v1 _ s0 h0
  unfold WritePost at RG0
  unfold DoesPost
  obtain ⟨ee, rs', he, hr'⟩ : ∃ ee rs', (writeR t priv v rs).2.1 = ee ∧ (writeR t priv v rs).2.2 = rs' := ⟨_, _, rfl, rfl⟩
  rw [ha, he, hr'] at RG0 ⊢
  have RG := Lib.hid RG0
  clear RG0 ha he hr' v0 v1
  go_enter Tryd.func14, Tryd.ntmps14
  go_wp2_with fail
  refine RG.out.mono ?_
  rintro e w1 ⟨rfl, h1, hg1⟩
  have z1 := z0.grown hg1 (by intro e; have := Option.some.inj e; omega)
  have g1 := grown_then b0 hg1
  go_wp2_with (refine wpList_store_blok rfl _ (.tmp 4) (.tmp 33) rfl (w.heap.size + 1) 0 (#[.int .i64 a0, .int .i64 a1, .int .u32 a2, .int .i64 a3, .int .u32 a4, .bool a5, .bool a6]) rfl rfl z1 (by simp) (by kernel_rfl) rfl ?_; intro w4 hb4 hg4 hz4)
  have r0 := hb4.cell 0
  have r1 := hb4.cell 1
  have r2 := hb4.cell 2
  have r3 := hb4.cell 3
  have r4 := hb4.cell 4
  have r5 := hb4.cell 5
  have r6 := hb4.cell 6
  simp at r0 r1 r2 r3 r4 r5 r6
  refine bodyPost_ret (v := .tuple #[.agg (#[.int .i64 a0, .int .i64 a1, .int .u32 a2, .int .i64 a3, .int .u32 a4, .bool a5, .bool a6]), .int .i64 ee]) (by simp [results, Tryd.results14, go_sem, r0, r1, r2, r3, r4, r5, r6]) rfl ⟨rfl, h1.far hg4 (by intro e; have := Option.some.inj e; omega), gnew9 g1 hg4 (by omega)⟩
/-- what does comes to: the act, the error, the registers -/
def doesR (o : Op8) (rs : List Int) : Array Value × Int × List Int :=
  if o.kind = 1 then (#[.int .i64 0, .int .i64 0, .int .u32 0, .int .i64 0, .int .u32 0, .bool false, .bool false], readErr o.t o.priv, rs) else if o.kind = 2 then writeR o.t o.priv o.word rs
  else if o.kind = 4 then (if 0 ≤ o.reg ∧ o.reg < 13 then (#[.int .i64 0, .int .i64 0, .int .u32 0, .int .i64 0, .int .u32 0, .bool false, .bool false], 0, rs.set o.reg.toNat (keep o.reg.toNat o.word)) else (#[.int .i64 0, .int .i64 0, .int .u32 0, .int .i64 0, .int .u32 0, .bool false, .bool false], 1, rs)) else (#[.int .i64 0, .int .i64 0, .int .u32 0, .int .i64 0, .int .u32 0, .bool false, .bool false], 0, rs)
theorem does_is (o : Op8) (ho : o.Ok) (fb : Nat) (rs : List Int) (w : World) (hs : Rul w) (h : IsFile w 63 fb rs) :
    Calls Tryd.prog 14 #[.pointer (some ⟨fb, 0, none⟩), .agg #[.int .i64 o.kind, .int .i64 o.t.crn, .int .i64 o.t.op1, .int .i64 o.t.crm, .int .i64 o.t.op2, .bool o.priv, .int .u32 o.word, .int .i64 o.reg]] w (DoesPost 63 fb (doesR o rs) w) := by
  obtain ⟨kind, t, priv, word, reg⟩ := o
  dsimp only
  unfold doesR
  dsimp only
  by_cases k1 : kind = 1
  · subst k1; rw [if_pos rfl]; exact does_1 fb rs t priv word reg w hs h
  rw [if_neg k1]
  by_cases k2 : kind = 2
  · subst k2; rw [if_pos rfl]; exact does_2 fb rs t priv word reg ho.w0 ho.w1 w hs h
  rw [if_neg k2]
  by_cases k4 : kind = 4
  · subst k4
    rw [if_pos rfl]
    by_cases hr : 0 ≤ reg ∧ reg < 13
    · rw [if_pos hr]
      obtain ⟨n, rfl⟩ := Int.eq_ofNat_of_zero_le hr.1
      exact does_4_yes fb rs t priv word n (by omega) w hs h
    · rw [if_neg hr]
      exact does_4_no fb rs t priv word reg (by omega) w h
  rw [if_neg k4]
  exact does_0 fb rs t priv word reg kind k1 k2 k4 w h
end Go.Proofs.YtakihcdolpocjaaDoor
