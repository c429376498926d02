/- The walk of the law HierAll of layer 11: every call, and behind each all places of all three. For all sizes and every script the law HierAll answers true, and its arguments read as they did. -/
import Derived.Test.YtngcpcgioophcaaDoorPlay11
import Derived.Test.YtngcpcgioophcaaDoorTie
import Derived.Deep.DeepHandedRow
import Derived.ChangeOld
import Derived.Below
namespace Go.Proofs.YtngcpcgioophcaaDoor
open Go.RowKit

set_option maxHeartbeats 12800000 in
set_option maxRecDepth 100000 in
theorem all_yes (n1 n2 n3 : Nat) (a1 : 1 ≤ n1) (b1 : n1 ≤ 64) (a2 : 1 ≤ n2) (b2 : n2 ≤ 64) (a3 : 1 ≤ n3) (b3 : n3 ≤ 64) (p : Option Addr) (cap : Nat) (os : List Op11) (hos : ∀ o ∈ os, o.Ok) (hmax : os.length ≤ maxLen) (w : World) (hs : Shf w) (hO : OpsIn11 w.heap.size w p os) :
    Calls Tryd.prog 14 #[.int .i64 n1, .int .i64 n2, .int .i64 n3, .slice p os.length cap] w fun e w' => e = .returned (.bool true) ∧ Below w.heap.size w w' := by
  have hml : os.length < 9223372036854775808 := Nat.lt_of_le_of_lt hmax (by decide)
  clear hmax
  have BY := Lib.hid (both_yes n1 n2 n3 a1 b1 a2 b2 a3 b3 w hs)
  have hro := rows3_ok n1 n2 n3
  obtain ⟨xs0, hxs0⟩ : ∃ xs0, rows3 n1 n2 n3 = xs0 := ⟨_, rfl⟩
  rw [hxs0] at BY hro
  clear hxs0
  go_enter Tryd.func14, Tryd.ntmps14
  go_wp2_with (go_at_call 44; refine BY.out.mono ?_; rintro e w1 ⟨M, hb, tb, gb, rb, rtb, rgb, rfl, hH1, hR1, ap, hf, hM, hs1, hB1⟩)
  have far := In6.far ap hf hM
  clear BY
  go_loopw [12, 13] (fun v12 _ wr => ∃ k : Nat, k ≤ os.length ∧ v12 = .int .i64 k ∧ IsHier wr hb tb gb (stepsR (os.take k) xs0) ∧ IsRef wr rb rtb rgb (stepsR (os.take k) xs0) ∧ Shf wr ∧ Below w.heap.size w wr) (fun v12 _ _ => os.length - (intOf v12).toNat)
  case atStart => exact ⟨0, Nat.zero_le _, rfl, hH1, hR1, hs1, hB1⟩
  case round =>
    clear hH1 hR1 hs1 hB1
    obtain ⟨k, hk, rfl, hH, hR, hsr, hB⟩ := hrel
    by_cases hlt : k < os.length
    · obtain ⟨o, hok⟩ : ∃ o, os[k]? = some o := ⟨_, List.getElem?_eq_getElem hlt⟩
      obtain ⟨b, k0, hp, hbl, hc⟩ := hO k o hok
      subst hp
      have hrg : wr.rangeAt b (k0 + k * 19) (op11Cells o) := fun j v hv => (hB.cell hbl).trans (hc j v hv)
      have hoo := hos o (List.mem_of_getElem? hok)
      have hrow := stepsR_ok (os.take k) (fun o ho => hos o (List.mem_of_mem_take ho)) _ hro
      have hst : stepsR (os.take (k + 1)) xs0 = stepR o (stepsR (os.take k) xs0) := by rw [take_snoc os k o hok, stepsR_snoc]
      have ST : Hid (Calls Tryd.prog 45 #[.pointer (some ⟨hb, 0, none⟩), .pointer (some ⟨rb, 0, none⟩), .agg (op11Cells o).toArray] wr (StepPost hb tb gb rb rtb rgb (stepR o (stepsR (os.take k) xs0)) wr)) := Lib.hid (step_is o hoo 0 M hb rb tb gb rtb rgb _ hrow wr hsr hH hR ap)
      have hzz := hH.zz hR
      rw [← hst] at ST
      obtain ⟨ys, hys⟩ : ∃ ys, stepsR (os.take (k + 1)) xs0 = ys := ⟨_, rfl⟩
      rw [hys] at ST
      have HYS := Lib.hid hys
      clear hc hok hrow hst hys
      go_wp2_with (first | (refine wpList_load_mid rfl 79 (.tmp 35) rfl b (k0 + k * 19) rfl (op11Cells o) _ hrg Tryd.underlying79 rfl (by kernel_rfl) ?_) | (go_at_call 45; refine ST.out.mono ?_; rintro e w3 ⟨rfl, hH3, hR3, hG3⟩))
      have hs3 := hsr.gs hG3 hzz
      have hB3 := hB.trans (hG3.bel hB.size far)
      obtain ⟨wo, hwo⟩ : ∃ wo : World, wo = wr := ⟨_, rfl⟩
      rw [← hwo] at hH hR hsr hB hrg ST hG3
      clear hwo
      clear hrg ST
      go_loopw [13] (fun v13 wq => ∃ j : Nat, 1 ≤ j ∧ j ≤ 4 ∧ v13 = .int .i64 j ∧ IsHier wq hb tb gb ys ∧ IsRef wq rb rtb rgb ys ∧ Shf wq ∧ Below w.heap.size w wq) (fun v13 _ => 4 - (intOf v13).toNat)
      case atStart => exact ⟨1, by omega, by omega, rfl, hH3, hR3, hs3, hB3⟩
      case round =>
        clear hH3 hR3 hs3 hB3 hG3
        obtain ⟨j, hj1, hj4, rfl, hHq, hRq, hsq, hBq⟩ := hrel
        by_cases hlj : j ≤ 3
        · have hle := (hHq.th.t j hj1 hlj).le
          have HF := Lib.hid (hier_Places_yes j hj1 hlj hb tb gb ys _ hHq)
          have RF := Lib.hid (fun W hW => ref11_Places_yes j hj1 hlj rb rtb rgb ys W hW)
          have SF := Lib.hid (fun ga gb ca cb W ha hb => slots_is ga gb (ys j).length ca cb (ys j) rfl hle W ha hb)
          go_wp2_with (first
            | (go_at_call 46; refine (SF.out _ _ _ _ _ (hA4.below hB5) hA5).mono ?_; rintro e w6 ⟨rfl, hB6⟩)
            | (go_at_call 48; refine (RF.out _ r4).mono ?_; rintro e w5 ⟨g, cap, rfl, hA5, hg5, hB5⟩)
            | (go_at_call 47; refine HF.out.mono ?_; rintro e w4 ⟨rfl, hL4, hz4, hB4⟩; have hA4 := RowAt.of hL4; have r4 := hRq.below hB4))
          go_roundw
          case rel => exact ⟨j + 1, by omega, by omega, by go_num, ((hHq.below hB4).below hB5).below hB6, (r4.below hB5).below hB6, ((hsq.below hsq.pos hB4).below (hsq.below hsq.pos hB4).pos hB5).below ((hsq.below hsq.pos hB4).below (hsq.below hsq.pos hB4).pos hB5).pos hB6, bthen (bthen (bthen hBq hB4) hB5) hB6⟩
          case measure => simp [intOf]; omega
        · go_wp2
          go_roundw
          case rel => exact ⟨k + 1, by omega, by go_num, by rw [HYS.out]; exact hHq, by rw [HYS.out]; exact hRq, hsq, hBq⟩
          case measure => simp [intOf]; omega
    · have PN := Lib.hid (fun n hn W => Calls.bel (hier_Places_no n hn ⟨hb, 0, none⟩ W))
      have SN := Lib.hid (fun W => Calls.bel (slots_nil W))
      go_wp2_with (first
        | (go_at_call 46; refine (SN.out _).mono ?_; rintro e w6 ⟨rfl, hB6⟩; have hBn := bthen (by with_reducible assumption) hB6)
        | (go_at_call 47; refine (PN.out _ (by omega) _).mono ?_; rintro e w4 ⟨rfl, hB4⟩; have hBn := bthen (by with_reducible assumption) hB4))
      go_ret
      exact ⟨rfl, hBn⟩
theorem HierAll_walk (n1 n2 n3 : Int) (p : Option Addr) (cap : Nat) (os : List Op11) (hos : ∀ o ∈ os, o.Ok) (hmax : os.length ≤ maxLen) (w : World) (hs : Shf w) (hO : OpsIn11 w.heap.size w p os) :
    Calls Tryd.prog 14 #[.int .i64 n1, .int .i64 n2, .int .i64 n3, .slice p os.length cap] w fun e w' => e = .returned (.bool true) ∧ Below w.heap.size w w' := by
  by_cases h : Ok1 n1 ∧ Ok1 n2 ∧ Ok1 n3
  · obtain ⟨⟨a1, b1⟩, ⟨a2, b2⟩, ⟨a3, b3⟩⟩ := h
    obtain ⟨m1, rfl⟩ := Int.eq_ofNat_of_zero_le (show 0 ≤ n1 by omega)
    obtain ⟨m2, rfl⟩ := Int.eq_ofNat_of_zero_le (show 0 ≤ n2 by omega)
    obtain ⟨m3, rfl⟩ := Int.eq_ofNat_of_zero_le (show 0 ≤ n3 by omega)
    exact all_yes m1 m2 m3 (by omega) (by omega) (by omega) (by omega) (by omega) (by omega) p cap os hos hmax w hs hO
  · have BN := Lib.hid (both_no n1 n2 n3 h w)
    clear h
    go_enter Tryd.func14, Tryd.ntmps14
    go_wp2_with (go_at_call 44; refine BN.out.mono ?_; rintro e w1 ⟨rfl, hB1⟩)
    go_ret
    exact ⟨rfl, hB1⟩
end Go.Proofs.YtngcpcgioophcaaDoor

namespace Go.Proofs.YtngcpcgioophcaaDoor.hierAll
open Go.ChangeShapes Go.WideShapes Go.ChangeAt Go.RowKit
set_option maxRecDepth 100000

theorem contract (H : Type) (enc : TypeId × Value → H) (W : World) (base : Nat) (args : Array Value) (ds gs : List (DataW H)) (before : List MemPlace)
    (hval : ∀ (j : Nat) t v, Tryd.f14.params[j]? = some t → args[j]? = some v → Value.okWide Tryd.prog W .any base t v)
    (hW : DataW.Whole enc Tryd.prog Tryd.f14.params.toList Rows.hierAllSpec.vars false W args.toList ds gs before) (hL : laidMetH Tryd.prog Rows.hierAllRow.laid W) :
    Calls Tryd.prog 14 args W fun e W' => ∃ v, e = .returned v ∧ Rows.hierAllSpec.post enc Tryd.prog Tryd.f14 false true false false W args v W' := by
  have hW' := hW
  obtain ⟨p, q, hA0, hV, rfl, hfz, hnd⟩ := hW
  have hA : DataW.TrodAll enc Tryd.prog W 0 (fun _ => true) true Tryd.f14.params.toList args.toList ds p := hA0
  rw [Tryd.params14] at hA hval
  obtain ⟨v0, vs0, d0, ds0, p0, q0, hargs, rfl, rfl, h0, r0⟩ := trodAll_cons hA
  obtain ⟨v1, vs1, d1, ds1, p1, q1, rfl, rfl, rfl, h1, r1⟩ := trodAll_cons r0
  obtain ⟨v2, vs2, d2, ds2, p2, q2, rfl, rfl, rfl, h2, r2⟩ := trodAll_cons r1
  obtain ⟨v3, vs3, d3, ds3, p3, q3, rfl, rfl, rfl, h3, r3⟩ := trodAll_cons r2
  obtain ⟨rfl, rfl, rfl⟩ := trodAll_nil r3
  obtain rfl : args = #[v0, v1, v2, v3] := by cases args; simp_all
  obtain ⟨rfl, rfl⟩ := trodVars_none hV
  have k0 := h0
  have lt0 : ∀ x ∈ p0, x.block < W.heap.size := by obtain ⟨m, hm⟩ := k0; exact DataW.trod_lt m _ _ _ hm
  obtain ⟨a0, rfl, _, _, w0⟩ := open_int Tryd.underlying3 (hval 0 3 v0 rfl rfl) h0
  have k1 := h1
  have lt1 : ∀ x ∈ p1, x.block < W.heap.size := by obtain ⟨m, hm⟩ := k1; exact DataW.trod_lt m _ _ _ hm
  obtain ⟨a1, rfl, _, _, w1⟩ := open_int Tryd.underlying3 (hval 1 3 v1 rfl rfl) h1
  have k2 := h2
  have lt2 : ∀ x ∈ p2, x.block < W.heap.size := by obtain ⟨m, hm⟩ := k2; exact DataW.trod_lt m _ _ _ hm
  obtain ⟨a2, rfl, _, _, w2⟩ := open_int Tryd.underlying3 (hval 2 3 v2 rfl rfl) h2
  have k3 := h3
  have lt3 : ∀ x ∈ p3, x.block < W.heap.size := by obtain ⟨m, hm⟩ := k3; exact DataW.trod_lt m _ _ _ hm
  obtain ⟨q_3, c3, a3, rfl, e3, o3, x3⟩ := open_ops11 (hval 3 70 v3 rfl rfl) h3
  clear hA0
  have hT := table hL
  refine (HierAll_walk a0 a1 a2 q_3 c3 a3 o3 x3 W hT e3).mono fun e W' ⟨he, bel⟩ => ?_
  subst he
  exact ⟨_, rfl, _, _, _, [], _, [], hW', trodAll_mk1 (shut_bool Tryd.underlying4 _), (trodAll_cons_mk (Below.trod laidOut (by kernel_rfl) (of_decide_eq_true (by kernel_rfl)) k0 bel lt0) (trodAll_cons_mk (Below.trod laidOut (by kernel_rfl) (of_decide_eq_true (by kernel_rfl)) k1 bel lt1) (trodAll_cons_mk (Below.trod laidOut (by kernel_rfl) (of_decide_eq_true (by kernel_rfl)) k2 bel lt2) (trodAll_cons_mk (Below.trod laidOut (by kernel_rfl) (of_decide_eq_true (by kernel_rfl)) k3 bel lt3) trodAll_mk0)))), rfl, bel.frame _, fun h => by cases h⟩

/-- A world for the witness: the settled one, the table holding what its initialiser lays. -/
noncomputable def laidWorld (os : Os) : World :=
  { World.holding Tryd.prog os ⟨#[], #[], []⟩ with heap := (World.holding Tryd.prog os ⟨#[], #[], []⟩).heap.modify 0 fun
      | .cells _ t frozen => .cells #[.int .u64 0, .int .u64 12, .int .u64 16, .int .u64 20, .int .u64 24] t frozen
      | o => o }
theorem laid_met (os : Os) : laidMet Tryd.prog Rows.hierAllRow.laid ((laidWorld os).forCall (fun _ _ => 0) ⟨#[], #[.int .i64 0, .int .i64 0, .int .i64 0, .slice none 0 0], []⟩).memory :=
  laidMet_of_run' 8 (by kernel_rfl) (by kernel_rfl)
theorem reads (os : Os) {H : Type} (enc : TypeId × Value → H) : ∃ places, DataW.whole enc Tryd.prog ((laidWorld os).forCall (fun _ _ => 0) ⟨#[], #[.int .i64 0, .int .i64 0, .int .i64 0, .slice none 0 0], []⟩).memory Tryd.f14.params.toList Rows.hierAllSpec.vars false (#[.int .i64 0, .int .i64 0, .int .i64 0, .slice none 0 0] : Array Value).toList 8 = some ([.lit (.int .i64 0), .lit (.int .i64 0), .lit (.int .i64 0), .nil], [], places) :=
  ⟨[], by kernel_rfl⟩
theorem lifted (os : Os) (started : os.Started) (H : Type) (enc : TypeId × Value → H) (F : Stop.Interp) :
    ReturnsInHanded {} Tryd.checked os 14 .any ((OpenSpec.ofChange Rows.hierAllSpec).preRow enc Tryd.prog Tryd.f14 Rows.hierAllRow.domain false Rows.hierAllRow.laid) (((OpenSpec.ofChange Rows.hierAllSpec).at F).post enc Tryd.prog Tryd.f14 false true false false) := by
  obtain ⟨places, hx⟩ := reads os enc
  refine returnsInHanded_of_row (C := Tryd.checked) (s := OpenSpec.ofChange Rows.hierAllSpec) own started (by kernel_rfl) Tryd.func14
    (witness_row_at (enc := enc) (C := Tryd.checked) false (laidWorld os) #[.int .i64 0, .int .i64 0, .int .i64 0, .slice none 0 0] rfl (by kernel_rfl) (by kernel_rfl) (by kernel_rfl)
      (OpenSpec.preRow_of_cond 8 hx (by kernel_rfl) (fun k hk => by cases hk) (by kernel_rfl) (laid_met os))) ?_
  intro W base args ds gs before hval hW _ _ _ hL _ _
  exact contract H enc W base args ds gs before hval hW hL
theorem said : Rows.HierAllSaid :=
  OpenClaim.holds_of_cond 14 Tryd.f14 rfl rfl rfl rfl rfl rfl rfl ⟨rfl, rfl, rfl, rfl, rfl⟩ rfl rfl rfl rfl rfl (by kernel_rfl) Tryd.func14 (by kernel_rfl)
    (of_decide_eq_true (by kernel_rfl)) (by unfold Func.isWrapper; first | (rw [if_pos (by decide +kernel)]; kernel_rfl) | (rw [if_neg (by decide +kernel)]; exact ⟨rfl, rfl⟩))
    (fun os started H enc _ F => by rw [OpenClaim.pre_eq_preRow]; exact lifted os started H enc F)
theorem plain (f : FuncId) (fn : Func) (hf : Tryd.pinned.checked.prog.funcNamed "atlas/atlaslaw11.HierAll" = some f) (hfn : Tryd.pinned.checked.prog.funcs[f]? = some fn) :
    false = Tryd.pinned.checked.prog.looks [] ∧ ∀ (j : Nat) t, fn.params[j]? = some t → Tryd.pinned.checked.prog.wantsStandIn t = false := by
  obtain rfl : f = 14 := Option.some.inj ((show Tryd.prog.funcNamed "atlas/atlaslaw11.HierAll" = some 14 by kernel_rfl).symm.trans hf) |>.symm
  obtain rfl : fn = Tryd.f14 := (Option.some.inj (Tryd.func14.symm.trans hfn)).symm
  refine ⟨by kernel_rfl, fun j t ht => ?_⟩
  rw [Tryd.params14] at ht
  have hm := Array.mem_of_getElem? ht
  simp only [List.mem_toArray, List.mem_cons, List.not_mem_nil, or_false] at hm
  rcases hm with rfl | rfl | rfl | rfl
  all_goals first | exact (show Tryd.prog.wantsStandIn _ = false by kernel_rfl)
theorem card : Rows.HierAllCardSaid :=
  Claim7.holds_tied_plain_at .later [] _ _ _ _ said (fun _ h => by cases h) (by kernel_rfl) (fun _ h => by cases h) hierAll_row_tie rfl ⟨rfl, rfl⟩ (by kernel_rfl) rfl plain (by kernel_rfl)
#print axioms card
end Go.Proofs.YtngcpcgioophcaaDoor.hierAll
