/- Of any state, any words and any holes the law CpuAgain answers true: an instruction that faulted, run again without the holes, is one that did not fault. -/
import Derived.Test.YtpfhplhamnohjaaUZem
import Derived.Test.YtpfhplhamnohjaaURem
import Derived.Test.YtpfhplhamnohjaaRows
import Derived.WalkKit
import Derived.ProofKit
import Derived.OpenShut
import Derived.ChangeOld
import Derived.Below
namespace Go.Proofs.Ytpfhplhamnohjaa.cpuAgain
set_option maxHeartbeats 25600000
set_option maxRecDepth 100000
open Go.ChangeShapes Go.WideShapes Go.ChangeAt Go.RowKit
theorem own : ownKnob Try.prog.godebug = none := by kernel_rfl
theorem laidOut : laidOutB Try.prog = true := by kernel_rfl
theorem lifted (os : Os) (started : os.Started) (H : Type) (enc : TypeId × Value → H) :
    ReturnsInHanded {} Try.checked os 3 .any (Rows.cpuAgainSpec.pre6 enc Try.prog Try.f3 Rows.cpuAgainRow.domain false) (Rows.cpuAgainSpec.post enc Try.prog Try.f3 false true false false) := by
  refine returnsInHanded_of_change_sized (C := Try.checked) own started (by kernel_rfl) Try.func3
    (ChangeSpec.witness6 (enc := enc) (C := Try.checked) false ⟨#[], #[.agg #[.int .u32 0, .int .u32 0, .int .u32 0, .int .u32 0, .int .u32 0, .int .u32 0, .int .u32 0, .int .u32 0, .int .u32 0, .int .u32 0, .int .u32 0, .int .u32 0, .int .u32 0, .int .u32 0, .int .u32 0, .int .u32 0, .int .u32 0, .int .u32 0, .int .u32 0, .int .u32 0, .int .u32 0, .int .u32 0, .int .u32 0, .int .u32 0, .int .u32 0, .int .u32 0, .int .u32 0, .int .u32 0, .int .u32 0, .int .u32 0], .slice none 0 0, .slice none 0 0], []⟩ 8 (by kernel_rfl) (by kernel_rfl) (by kernel_rfl) (by kernel_rfl)) ?_
  intro W base args ds gs before hval0 hW hcnd hsz0 _
  have hval : ∀ (j : Nat) t v, Try.f3.params[j]? = some t → args[j]? = some v → Value.okWide Try.prog W .any base t v := hval0
  have hW' := hW
  obtain ⟨p, q, hA0, hV, rfl, hfz, hnd⟩ := hW
  have hA : DataW.TrodAll enc Try.prog W 0 (fun _ => true) true Try.f3.params.toList args.toList ds p := hA0
  rw [Try.params3] at hA hval
  obtain ⟨v0, vs0, d0, ds0, p0, q0, hargs, rfl, rfl, h0, r0⟩ := trodAll_cons hA
  obtain ⟨v1, vs1, d1, ds1, p1, q1, rfl, rfl, rfl, h1, r1⟩ := trodAll_cons r0
  obtain ⟨v2, vs2, d2, ds2, p2, q2, rfl, rfl, rfl, h2, r2⟩ := trodAll_cons r1
  obtain ⟨rfl, rfl, rfl⟩ := trodAll_nil r2
  obtain rfl : args = #[v0, v1, v2] := by cases args; simp_all
  obtain ⟨rfl, rfl⟩ := trodVars_none hV
  have k0 := h0
  have lt0 : ∀ x ∈ p0, x.block < W.heap.size := by obtain ⟨m, hm⟩ := k0; exact DataW.trod_lt m _ _ _ hm
  obtain ⟨s0, rfl, o0⟩ := open_sta (hval 0 26 v0 rfl rfl) h0
  have k1 := h1
  have lt1 : ∀ x ∈ p1, x.block < W.heap.size := by obtain ⟨m, hm⟩ := k1; exact DataW.trod_lt m _ _ _ hm
  obtain ⟨x1, g1, o1, y1⟩ := open_puts (hval 1 27 v1 rfl rfl) h1
  have k2 := h2
  have lt2 : ∀ x ∈ p2, x.block < W.heap.size := by obtain ⟨m, hm⟩ := k2; exact DataW.trod_lt m _ _ _ hm
  obtain ⟨x2, g2, o2, y2⟩ := open_hols (hval 2 28 v2 rfl rfl) h2
  rw [Try.params3] at hsz0
  have z1 : x1.length ≤ 17592186044416 := by
    rcases y1 with h | ⟨es, sp, hd, hl⟩
    · rw [h]; omega
    · have hb : Try.prog.bytesOf 69 = 8 := by kernel_rfl
      have : (es.length + sp.length) * Try.prog.bytesOf 69 ≤ reachBytes := sized_slice hsz0 (j := 1) (t := 27) (e := 69) rfl (by rw [hd]; rfl) Try.underlying27
      rw [hb] at this
      unfold reachBytes at this
      omega
  have z2 : x2.length ≤ 4398046511104 := by
    rcases y2 with h | ⟨es, sp, hd, hl⟩
    · rw [h]; omega
    · have hb : Try.prog.bytesOf 179 = 32 := by kernel_rfl
      have : (es.length + sp.length) * Try.prog.bytesOf 179 ≤ reachBytes := sized_slice hsz0 (j := 2) (t := 28) (e := 179) rfl (by rw [hd]; rfl) Try.underlying28
      rw [hb] at this
      unfold reachBytes at this
      omega
  clear hA0 hval0 hsz0
  refine (again_walk s0 o0 x1 x2 v1 v2 o1 o2 z1 z2 W g1 g2).mono fun e W' ⟨he, bel⟩ => ?_
  subst he
  exact ⟨_, rfl, _, _, _, [], _, [], hW', trodAll_mk1 (shut_bool Try.underlying4 _), (trodAll_cons_mk (Below.trod laidOut (by kernel_rfl) (of_decide_eq_true (by kernel_rfl)) k0 bel lt0) (trodAll_cons_mk (Below.trod laidOut (by kernel_rfl) (of_decide_eq_true (by kernel_rfl)) k1 bel lt1) (trodAll_cons_mk (Below.trod laidOut (by kernel_rfl) (of_decide_eq_true (by kernel_rfl)) k2 bel lt2) trodAll_mk0))), rfl, bel.frame _, fun h => by cases h⟩
theorem over : Rows.cpuAgainRow.holds Try.pinned (OpenSpec.ofChange Rows.cpuAgainSpec) :=
  OpenClaim.holds_of_wide 3 Try.f3 rfl rfl rfl rfl rfl rfl rfl ⟨rfl, rfl, rfl, rfl, rfl⟩ rfl rfl rfl rfl rfl (by kernel_rfl) Try.func3 (by kernel_rfl)
    (of_decide_eq_true (by kernel_rfl)) (by unfold Func.isWrapper; first | (rw [if_pos (by decide +kernel)]; kernel_rfl) | (rw [if_neg (by decide +kernel)]; exact ⟨rfl, rfl⟩))
    (fun os started H enc _ => lifted os started H enc)
theorem proved : Rows.CpuAgainSaid := over
#print axioms proved
end Go.Proofs.Ytpfhplhamnohjaa.cpuAgain
namespace Go.Proofs.Ytpfhplhamnohjaa
/-- The row, under a short name, for the claim. -/
theorem cpuAgain_holds : Rows.CpuAgainSaid := cpuAgain.proved
end Go.Proofs.Ytpfhplhamnohjaa
