/- Layer 20: many, a store. -/
import Derived.Test.YtpfhplhamnohjaaG11
namespace Go.Proofs.Ytpfhplhamnohjaa
set_option maxHeartbeats 25600000
set_option maxRecDepth 100000
open Go.RowKit

theorem stm_done {T : TypeId} {V0 : Value} {M : Type} {I : M → (Nat → Prop) → World → Prop} {F : BusM M} {fA fC fR : Nat} (L : BusLaw T V0 I F fA fC fR) (m : M) (O : Nat → Prop)
    (o s : Sta) (at_ : Int) (i : Ins) (wt : Bool) (g : Nat) (t : TypeId) (ho : OkS o) (hs : OkS s) (hi : InsOk i) (hop : i.op = 40) (W : World) (h : Blok W g t (workCells o s (.iface T V0) at_ i wt)) (hI : I m O W) (hg : ¬ O g) (hf : 16 ≤ F.fuel m) :
    Calls Try.prog 52 #[.pointer (some ⟨g, 0, none⟩)] W (DoneB I O W g t o s (.iface T V0) at_ i wt (manyO F m o s at_ i).1 (manyO F m o s at_ i).2) := by
  have hlt := h.lt
  have c77 : W.cell? ⟨g, 77, none⟩ = some (.int .u16 i.list) := h.cell 77
  have c67 : W.cell? ⟨g, 67, none⟩ = some (.int .i64 i.rn) := h.cell 67
  have c75 : W.cell? ⟨g, 75, none⟩ = some (.bool i.up) := h.cell 75
  have l0 := hi.list.1
  have l1 := hi.list.2
  have GN := Lib.hid (get_is' o s (.iface T V0) at_ i wt g t i.rn ho hi.rn W h)
  have gu := getI_u o at_ i.rn ho hi.rn.1
  have cu := cntI_u i.list 16
  have H5 := Lib.hid (show (i.up = true → manyA0 o at_ i = getI o at_ i.rn ∧ manyE o at_ i = (getI o at_ i.rn + 4 * cntI i.list 16 % 4294967296) % 4294967296) ∧ (i.up = false → manyA0 o at_ i = (getI o at_ i.rn - 4 * cntI i.list 16 % 4294967296) % 4294967296 ∧ manyE o at_ i = (getI o at_ i.rn - 4 * cntI i.list 16 % 4294967296) % 4294967296) from ⟨fun e => by unfold manyA0 manyE; rw [if_pos e, if_pos e]; exact ⟨rfl, rfl⟩, fun e => by unfold manyA0 manyE; rw [e]; exact ⟨rfl, rfl⟩⟩)
  have a0u : 0 ≤ manyA0 o at_ i ∧ manyA0 o at_ i < 4294967296 := by
    unfold manyA0; split <;> omega
  have eu : 0 ≤ manyE o at_ i ∧ manyE o at_ i < 4294967296 := by
    unfold manyE; split <;> omega
  have H6 := Lib.hid (show manyAt o at_ i = if (i.pre == i.up) = true then (manyA0 o at_ i + 4) % 4294967296 else manyA0 o at_ i from rfl)
  have atu : 0 ≤ manyAt o at_ i ∧ manyAt o at_ i < 4294967296 := by
    rw [H6.out]; split <;> omega
  have hst := okS_put hs i.rn eu
  have HW := Lib.hid (show manyW o s at_ i = if i.write then putS s i.rn (manyE o at_ i) else s from rfl)
  have R0 := Lib.hid (show mrun F m o at_ i 0 = .ok (m, manyAt o at_ i, fun _ => 0) from rfl)
  have RS := Lib.hid (fun k mk a vs (q : mrun F m o at_ i k = .ok (mk, a, vs)) => show mrun F m o at_ i (k + 1) = mstep F o at_ i k (mk, a, vs) by unfold mrun; rw [q])
  have RE := Lib.hid (mrun_err F m o at_ i)
  have BU := Lib.hid (fun (k : Nat) (hk : k < 16) mk a vs (q : mrun F m o at_ i k = .ok (mk, a, vs)) Ok w' va v hva hv hw hIk hgk => bus_is L mk Ok o s at_ i wt g t 3 va 4 v ho hva hv (by simp) (by simp) w' hw hIk hgk (by have : F.fuel m ≤ F.fuel mk + k := mrun_fuel L m o at_ i k _ q; omega))
  clear hf
  have GK := Lib.hid (fun (k : Nat) (hk : k < 16) w' hw => get_is' o s (.iface T V0) at_ i wt g t (k : Int) ho ⟨by omega, by omega⟩ w' hw)
  have PN := Lib.hid (fun w' (k : Blok w' g t (workCells o s (.iface T V0) at_ i wt)) => put_is o s (.iface T V0) at_ i wt g t i.rn (manyE o at_ i) hs hi.rn w' k)
  have PK := Lib.hid (fun s' (k : Nat) (hk : k < 16) v w' (hs' : OkS s') (q : Blok w' g t (workCells o s' (.iface T V0) at_ i wt)) => put_is o s' (.iface T V0) at_ i wt g t (k : Int) v hs' ⟨by omega, by omega⟩ w' q)
  obtain ⟨R, hR⟩ : ∃ R, R = manyO F m o s at_ i := ⟨_, rfl⟩
  rw [← hR]
  have HR := Lib.hid hR
  clear hR
  go_enter Try.func52, Try.ntmps52
  go_upto_block 0 with fail
  go_cut [2] (fun s2 wx => s2 = .int .u32 (cntI i.list 16) ∧ wx = W)
  case first =>
    go_wp2_with fail
    go_loop [2, 10] (fun v2 v10 => ∃ k : Nat, k ≤ 16 ∧ v10 = .int .i64 k ∧ v2 = .int .u32 (cntI i.list k)) (fun _ v10 => 16 - (intOf v10).toNat)
    case atStart => exact ⟨0, Nat.zero_le _, rfl, rfl⟩
    case round =>
      obtain ⟨k, hk, rfl, rfl⟩ := hrel
      by_cases hlt : k < 16
      · have bu := bt16_u i.list k
        have HN := Lib.hid (show cntI i.list (k + 1) = (cntI i.list k + bt16 i.list k) % 4294967296 from rfl)
        have HB : bits .and .u16 (i.list / 2 ^ k) 1 = bt16 i.list k := rfl
        generalize bt16 i.list k = bb at bu HN HB
        obtain ⟨b0, b1⟩ := bu
        go_wp2_with fail
        go_round
        case rel => exact ⟨k + 1, by omega, by go_num, by rw [HN.out]⟩
        case measure => simp [intOf]; omega
      · obtain rfl : k = 16 := by omega
        go_wp2_with fail
        go_meet
        exact ⟨rfl, rfl⟩
  case rest =>
    obtain ⟨rfl, rfl⟩ := hcut
    obtain ⟨V, rfl⟩ : ∃ V, V = wc := ⟨_, rfl⟩
    generalize cntI i.list 16 = N at cu H5 ⊢
    go_upto_if 42 with (go_at_call 64; (with_reducible refine (GN.out).mono ?_); rintro e w1 ⟨rfl, k, rfl⟩)
    have h1 := h.drewN k
    have hI1 := L.keep m O V (V.drewN k) (fun _ => False) hI (GrownS.drewN _ _ k) (fun _ _ q => q)
    have b1 : Below V.heap.size V (V.drewN k) := bdrewN (Below.refl _ _) k
    go_cut [5, 6] (fun s5 s6 wx => s5 = .int .u32 (manyA0 o at_ i) ∧ s6 = .int .u32 (manyE o at_ i) ∧ wx = V.drewN k)
    case first =>
      cases zu : i.up
      · rw [zu] at c75
        obtain ⟨q1, q2⟩ := H5.out.2 zu
        go_wp2_with fail
        go_meet
        exact ⟨by rw [q1], by rw [q2], rfl⟩
      · rw [zu] at c75
        obtain ⟨q1, q2⟩ := H5.out.1 zu
        go_wp2_with fail
        go_meet
        exact ⟨by rw [q1], by rw [q2], rfl⟩
    case rest =>
      obtain ⟨rfl, rfl, rfl⟩ := hcut
      clear c75 c67 c77 H5 gu cu GN
      have c74 : (V.drewN k).cell? ⟨g, 74, none⟩ = some (.bool i.pre) := h1.cell 74
      have c75 : (V.drewN k).cell? ⟨g, 75, none⟩ = some (.bool i.up) := h1.cell 75
      generalize V.drewN k = V1 at h1 hI1 b1 c74 c75 ⊢
      go_wp2_with fail
      go_quiet (fail)
      go_upto_if 61 with fail
      go_cut [5] (fun s5 wx => s5 = .int .u32 (manyAt o at_ i) ∧ wx = V1.drewN nq)
      case first =>
        cases zp : (i.pre == i.up)
        · have q := H6.out
          rw [zp] at q
          go_wp2_with fail
          go_meet
          exact ⟨by rw [q]; rfl, rfl⟩
        · have q := H6.out
          rw [zp] at q
          go_wp2_with fail
          go_meet
          exact ⟨by rw [q]; rfl, rfl⟩
      case rest =>
        obtain ⟨rfl, rfl⟩ := hcut
        have h2 := h1.drewN nq
        have hI2 := L.keep m O V1 (V1.drewN nq) (fun _ => False) hI1 (GrownS.drewN _ _ nq) (fun _ _ q => q)
        have b2 : Below V.heap.size V (V1.drewN nq) := bdrewN b1 nq
        clear c74 c75 H6
        generalize V1.drewN nq = V2 at h2 hI2 b2 ⊢
        go_upto_block 2 with fail
        have hY := Blok.new V2 136 (valCells fun _ => 0)
        change Blok (V2.alloc (.cells #[.int .u32 0, .int .u32 0, .int .u32 0, .int .u32 0, .int .u32 0, .int .u32 0, .int .u32 0, .int .u32 0, .int .u32 0, .int .u32 0, .int .u32 0, .int .u32 0, .int .u32 0, .int .u32 0, .int .u32 0, .int .u32 0] 136)) V2.heap.size 136 _ at hY
        have h3 := h2.alloc (.cells #[.int .u32 0, .int .u32 0, .int .u32 0, .int .u32 0, .int .u32 0, .int .u32 0, .int .u32 0, .int .u32 0, .int .u32 0, .int .u32 0, .int .u32 0, .int .u32 0, .int .u32 0, .int .u32 0, .int .u32 0, .int .u32 0] 136)
        have b3 : Below V.heap.size V (V2.alloc (.cells #[.int .u32 0, .int .u32 0, .int .u32 0, .int .u32 0, .int .u32 0, .int .u32 0, .int .u32 0, .int .u32 0, .int .u32 0, .int .u32 0, .int .u32 0, .int .u32 0, .int .u32 0, .int .u32 0, .int .u32 0, .int .u32 0] 136)) := b2.alloc b2.size _
        have hI3 := L.keep m O V2 (V2.alloc (.cells #[.int .u32 0, .int .u32 0, .int .u32 0, .int .u32 0, .int .u32 0, .int .u32 0, .int .u32 0, .int .u32 0, .int .u32 0, .int .u32 0, .int .u32 0, .int .u32 0, .int .u32 0, .int .u32 0, .int .u32 0, .int .u32 0] 136)) (fun _ => False) hI2 (GrownS.ofBelow ((Below.refl _ _).alloc (Nat.le_refl _) _)) (fun _ _ q => q)
        have hyO : ¬ O V2.heap.size := fun q => Nat.lt_irrefl _ (L.old _ _ _ _ hI2 q)
        have hyV : V.heap.size ≤ V2.heap.size := b2.size
        generalize V2.alloc (.cells #[.int .u32 0, .int .u32 0, .int .u32 0, .int .u32 0, .int .u32 0, .int .u32 0, .int .u32 0, .int .u32 0, .int .u32 0, .int .u32 0, .int .u32 0, .int .u32 0, .int .u32 0, .int .u32 0, .int .u32 0, .int .u32 0] 136) = V3 at hY h3 b3 hI3 ⊢
        generalize V2.heap.size = y at hY hyO hyV ⊢
        have hgy : ¬ g = y := by omega
        clear h2 hI2 b2 h1 hI1 b1
        have hI := hI3
        go_cut [5] (fun s5 wx => MEnd I F m O V g t o s (.iface T V0) at_ i wt y wx)
        case first =>
          go_wp2_with fail
          go_loopw [5, 64] (fun v5 v64 wr => MLoop I F m O V g t o s (.iface T V0) at_ i wt y v5 v64 wr) (fun _ v64 _ => 16 - (intOf v64).toNat)
          case atStart => exact MLoop.mk 0 m _ (fun _ => 0) O (Nat.zero_le _) rfl rfl R0 atu (fun _ => by omega) h3 hY hI3 (GrownS.ofBelow b3) (fun _ q => Or.inl q) hyO
          case round =>
            clear h3 hY hI3 b3 hI
            cases hrel with
            | mk k mk a vs Ok hk e64 e5 run ha hv hW hY hI gr hO hy =>
              subst e64 e5
              have hgk : ¬ Ok g := fun q => (hO g q).elim hg (fun r => by omega)
              by_cases hlt16 : k < 16
              · have c77 : wr.cell? ⟨g, 77, none⟩ = some (.int .u16 i.list) := hW.cell 77
                have c63 : wr.cell? ⟨g, 63, none⟩ = some (.int .i64 i.op) := hW.cell 63
                rw [hop] at c63
                have HB : bits .and .u16 (i.list / 2 ^ k) 1 = bt16 i.list k := rfl
                have QS := Lib.hid (RS.out k mk a vs run.out)
                have ik0 : (0 : Int) ≤ (k : Int) := by omega
                have ik1 : (k : Int) < 16 := by omega
                by_cases hz : bt16 i.list k = 0
                · have z : (bt16 i.list k == 0) = true := by simp [hz]
                  have QN := Lib.hid (show mrun F m o at_ i (k + 1) = .ok (mk, a, vs) by rw [QS.out]; unfold mstep; rw [if_pos hz])
                  clear hz BU GK
                  go_wp2_with fail
                  go_roundw
                  case rel => exact MLoop.mk (k + 1) mk a vs Ok (by omega) (by go_num) rfl QN ha hv hW hY hI gr hO hy
                  case measure => simp [intOf]; omega
                · have z : (bt16 i.list k == 0) = false := by simp [hz]
                  have Q1 := QS.out
                  unfold mstep at Q1
                  rw [if_neg hz] at Q1
                  simp only [hop, Int.reduceEq, if_false] at Q1
                  have gk := getI_u o at_ (k : Int) ho ik0
                  have BK := Lib.hid (fun n => BU.out k hlt16 mk a vs run.out Ok (wr.drewN n) a (getI o at_ (k : Int)) ha gk (hW.drewN n) (L.keep mk Ok wr (wr.drewN n) (fun _ => False) hI (GrownS.drewN _ _ n) (fun _ _ q => q)) hgk)
                  have GKK := Lib.hid (GK.out k hlt16 wr hW)
                  generalize getI o at_ (k : Int) = gv at Q1 BK GKK gk
                  generalize F.acc mk 3 a 4 gv (!userB o) = q at Q1 BK
                  obtain ⟨m', x⟩ := q
                  dsimp only at Q1 BK
                  clear hz QS BU GK
                  cases hx : x.ok
                  · rw [hx] at Q1
                    have QN := Lib.hid (show mrun F m o at_ i (k + 1) = .error (m', abortP 3 a 4 gv (!userB o) x) by rw [Q1]; rfl)
                    clear Q1
                    go_wp2_with (first | (go_at_call 64; (with_reducible refine (GKK.out).mono ?_); rintro e w4 ⟨rfl, k4, rfl⟩) | (go_at_call 70; (with_reducible refine (BK.out _).mono ?_); rintro e w5 ⟨he, B5, O', hI5, g5, k5⟩; rw [hx] at he; simp only [Bool.false_eq_true, if_false] at he; subst he))
                    refine And.intro rfl ?_
                    have E16 := RE.out (k + 1) _ QN.out (16 - (k + 1))
                    rw [show k + 1 + (16 - (k + 1)) = 16 by omega] at E16
                    rw [show R = (m', Out.ab (abortP 3 a 4 gv (!userB o) x)) by rw [HR.out]; unfold manyO; rw [E16]]
                    exact ⟨rfl, B5, O', hI5, grownS_mono (grownS_chain gr ((GrownS.drewN _ _ _).trans g5) hO) (fun _ q => Or.inr q), fun j q => (k5 j q).elim (hO j) (fun r => Or.inr (Nat.le_trans gr.size r))⟩
                  · rw [hx] at Q1
                    have QN := Lib.hid (show mrun F m o at_ i (k + 1) = .ok (m', (a + 4) % 4294967296, vs) by rw [Q1]; rfl)
                    clear Q1
                    go_wp2_with (first | (go_at_call 64; (with_reducible refine (GKK.out).mono ?_); rintro e w4 ⟨rfl, k4, rfl⟩) | (go_at_call 70; (with_reducible refine (BK.out _).mono ?_); rintro e w5 ⟨he, B5, O', hI5, g5, k5⟩; rw [hx] at he; simp only [if_true] at he; subst he))
                    go_roundw
                    case rel =>
                      have g6 : GrownS wr w5 Ok := (GrownS.drewN _ _ _).trans g5
                      have hy5 : ¬ O' y := fun q => (k5 y q).elim hy (fun r => by have := hY.lt; have r' : wr.heap.size ≤ y := r; omega)
                      exact MLoop.mk (k + 1) m' _ vs O' (by omega) (by go_num) rfl QN (by omega) hv B5 (hY.gs g6 hy) hI5 (grownS_chain gr g6 hO) (fun j q => (k5 j q).elim (hO j) (fun r => Or.inr (Nat.le_trans gr.size r))) hy5
                    case measure => simp [intOf]; omega
              · obtain rfl : k = 16 := by omega
                go_wp2_with fail
                go_meet
                exact MEnd.mk mk a vs Ok run hv hW hY hI gr hO hy
        case rest =>
          cases hcut with
          | mk mk a vs Ok run hv hW hY hI4 gr hO hy =>
            clear h3 hI3 b3 hI R0 RS RE BU GK
            have hgk : ¬ Ok g := fun q => (hO g q).elim hg (fun r => by omega)
            have hyk : ∀ j, Ok j → ¬ j = g := fun j q e => hgk (e ▸ q)
            have hgy' : some y ≠ some g := fun e => hgy (Option.some.inj e).symm
            have c76 : wc.cell? ⟨g, 76, none⟩ = some (.bool i.write) := hW.cell 76
            have c67 : wc.cell? ⟨g, 67, none⟩ = some (.int .i64 i.rn) := hW.cell 67
            obtain ⟨MW, hMW⟩ : ∃ MW, MW = manyW o s at_ i := ⟨_, rfl⟩
            have HM := Lib.hid hMW
            have okM : OkS MW := by
              rw [hMW, HW.out]
              split
              · exact hst
              · exact hs
            clear hMW
            have HR2 := Lib.hid (show R = (mk, Out.ok (mputs MW i vs 16)) by rw [HR.out]; unfold manyO; rw [run.out, HM.out])
            cases zw : i.write
            all_goals rw [zw] at c76
            · have e0 : MW = s := by rw [HM.out, HW.out, zw]; rfl
              have HE := Lib.hid e0
              clear e0 zw
              go_wp2_with fail
              have hW0 : Blok wc g t (workCells o (mputs MW i vs 0) (.iface T V0) at_ i wt) := by rw [HE.out]; exact hW
              have gr0 : GrownS V wc (fun j => j = g ∨ O j) := grownS_mono gr (fun _ q => Or.inr q)
              have hY0 := hY
              have hI0 := hI4
              clear c76 c67
              go_loopw [109] (fun v109 wr => PLoop I O V g t o MW (.iface T V0) at_ i wt y mk vs Ok v109 wr) (fun v109 _ => 16 - (intOf v109).toNat)
              case atStart => exact PLoop.mk 0 (Nat.zero_le _) rfl hW0 hY0 hI0 gr0
              case round =>
                clear hW0 gr0 hY0 hI0
                cases hrel with
                | mk k hk e hW6 hY6 hI6 gr6 =>
                  subst e
                  by_cases hlt16 : k < 16
                  · have c63 : wr.cell? ⟨g, 63, none⟩ = some (.int .i64 i.op) := hW6.cell 63
                    have c77 : wr.cell? ⟨g, 77, none⟩ = some (.int .u16 i.list) := hW6.cell 77
                    rw [hop] at c63
                    have ck := hY6.cell k
                    rw [valCells_get vs k hlt16] at ck
                    have HB : bits .and .u16 (i.list / 2 ^ k) 1 = bt16 i.list k := rfl
                    have ik0 : (0 : Int) ≤ (k : Int) := by omega
                    have ik1 : (k : Int) < 16 := by omega
                    have MS := Lib.hid (show mputs MW i vs (k + 1) = if i.op = 39 ∧ bt16 i.list k = 1 then putS (mputs MW i vs k) k (vs k) else mputs MW i vs k from rfl)
                    have okk := okS_mputs okM i hv k
                    have PQ := Lib.hid (PK.out _ k hlt16 (vs k) wr okk hW6)
                    have HS := Lib.hid (show mputs MW i vs (k + 1) = mputs MW i vs k by rw [MS.out, if_neg (fun q => by have := q.1; omega)])
                    clear MS
                    go_wp2_with fail
                    go_roundw
                    case rel => exact PLoop.mk (k + 1) (by omega) (by go_num) (by rw [HS.out]; exact hW6) hY6 hI6 gr6
                    case measure => simp [intOf]; omega
                  · obtain rfl : k = 16 := by omega
                    go_wp2_with fail
                    first | go_end0 | refine bodyPost_ret (results_none rfl _ _ _) rfl ?_
                    rw [HR2.out]
                    exact ⟨rfl, hW6, Ok, hI6, gr6, hO⟩
            · have e0 : MW = putS s i.rn (manyE o at_ i) := by rw [HM.out, HW.out, zw]; rfl
              have HE := Lib.hid e0
              clear e0 zw
              go_wp2_with (go_at_call 66; (with_reducible refine (PN.out _ hW).mono ?_); rintro e w8 ⟨rfl, B8, g8⟩)
              have hW0 : Blok w8 g t (workCells o (mputs MW i vs 0) (.iface T V0) at_ i wt) := by rw [HE.out]; exact B8
              have gr0 : GrownS V w8 (fun j => j = g ∨ O j) := (grownS_mono gr (fun _ q => Or.inr q)).trans (GrownS.ofOne g8 (Or.inl rfl))
              have hY0 := hY.grown g8 hgy'
              have hI0 := L.keep mk Ok wc w8 (fun j => j = g) hI4 (GrownS.ofOne g8 rfl) hyk
              clear c76 c67
              go_loopw [109] (fun v109 wr => PLoop I O V g t o MW (.iface T V0) at_ i wt y mk vs Ok v109 wr) (fun v109 _ => 16 - (intOf v109).toNat)
              case atStart => exact PLoop.mk 0 (Nat.zero_le _) rfl hW0 hY0 hI0 gr0
              case round =>
                clear hW0 gr0 hY0 hI0
                cases hrel with
                | mk k hk e hW6 hY6 hI6 gr6 =>
                  subst e
                  by_cases hlt16 : k < 16
                  · have c63 : wr.cell? ⟨g, 63, none⟩ = some (.int .i64 i.op) := hW6.cell 63
                    have c77 : wr.cell? ⟨g, 77, none⟩ = some (.int .u16 i.list) := hW6.cell 77
                    rw [hop] at c63
                    have ck := hY6.cell k
                    rw [valCells_get vs k hlt16] at ck
                    have HB : bits .and .u16 (i.list / 2 ^ k) 1 = bt16 i.list k := rfl
                    have ik0 : (0 : Int) ≤ (k : Int) := by omega
                    have ik1 : (k : Int) < 16 := by omega
                    have MS := Lib.hid (show mputs MW i vs (k + 1) = if i.op = 39 ∧ bt16 i.list k = 1 then putS (mputs MW i vs k) k (vs k) else mputs MW i vs k from rfl)
                    have okk := okS_mputs okM i hv k
                    have PQ := Lib.hid (PK.out _ k hlt16 (vs k) wr okk hW6)
                    have HS := Lib.hid (show mputs MW i vs (k + 1) = mputs MW i vs k by rw [MS.out, if_neg (fun q => by have := q.1; omega)])
                    clear MS
                    go_wp2_with fail
                    go_roundw
                    case rel => exact PLoop.mk (k + 1) (by omega) (by go_num) (by rw [HS.out]; exact hW6) hY6 hI6 gr6
                    case measure => simp [intOf]; omega
                  · obtain rfl : k = 16 := by omega
                    go_wp2_with fail
                    first | go_end0 | refine bodyPost_ret (results_none rfl _ _ _) rfl ?_
                    rw [HR2.out]
                    exact ⟨rfl, hW6, Ok, hI6, gr6, hO⟩
end Go.Proofs.Ytpfhplhamnohjaa
