/- Layer 20: the walk of the law CpuStates. -/
import Derived.Test.YtpfhplhamnohjaaUYbm
namespace Go.Proofs.Ytpfhplhamnohjaa
set_option maxHeartbeats 25600000
set_option maxRecDepth 100000
open Go.RowKit

set_option linter.unusedSimpArgs false
/-- a slice's elements, each by its index -/
theorem ArgRow.rows {α : Type} {f : α → List Value} {k : Nat} {w : World} {v : Value} {xs : List α} (hk : ∀ x, (f x).length = k) (h0 : 0 < k) (h : ArgRow f w v xs) :
    ∃ q cap, v = .slice q xs.length cap ∧ ∀ (i : Nat) (x : α), xs[i]? = some x → ∃ g k0, q = some ⟨g, k0, none⟩ ∧ w.rangeAt g (k0 + i * k) (f x) := by
  rcases h with ⟨rfl, rfl⟩ | ⟨ad, c, rfl, hc⟩
  · exact ⟨none, 0, rfl, fun i x h => by simp at h⟩
  · refine ⟨some ad, c, rfl, fun i x hx => ?_⟩
    have at_ : ∀ j y, (f x)[j]? = some y → w.cell? (ad.add (i * k + j)) = some y := fun j y hy => by
      have hj : j < k := by have := (List.getElem?_eq_some_iff.1 hy).1; rw [hk] at this; exact this
      exact hc _ _ ((flat_at f k hk xs i j x hx hj).trans hy)
    have hs : ad.spot = none := by
      have hi : i < xs.length := (List.getElem?_eq_some_iff.1 hx).1
      have fa := flat_at f k hk xs 0 0 (xs[0]'(by omega)) (List.getElem?_eq_getElem _) h0
      have z := hc 0 ((f (xs[0]'(by omega)))[0]'(by rw [hk]; exact h0)) ((by simpa using fa : (xs.flatMap f)[0]? = (f (xs[0]'(by omega)))[0]?).trans (List.getElem?_eq_getElem _))
      simp only [Addr.add, if_pos] at z
      unfold World.cell? at z
      split at z
      · split at z
        · cases z
        · rename_i hh; simpa using hh
      · cases z
    obtain ⟨g, k0, sp⟩ := ad
    dsimp only at hs
    subst hs
    refine ⟨g, k0, rfl, fun j y hy => ?_⟩
    have z := at_ j y hy
    have e : (⟨g, k0, none⟩ : Addr).add (i * k + j) = ⟨g, k0 + i * k + j, none⟩ := by
      unfold Addr.add
      split <;> simp_all <;> omega
    rw [e] at z
    exact z
theorem states_walk (s : Sta) (hs : OkS s) (puts : List (Int × Int)) (holes : List Hol) (ops : List Op20) (vp vh vo : Value) (hp : ∀ p ∈ puts, (0 ≤ p.1 ∧ p.1 < 4294967296) ∧ (0 ≤ p.2 ∧ p.2 < 4294967296)) (hh : ∀ h ∈ holes, (0 ≤ h.lo ∧ h.lo < 4294967296) ∧ (0 ≤ h.hi ∧ h.hi < 4294967296)) (ho : ∀ o ∈ ops, (0 ≤ o.v ∧ o.v < 4294967296) ∧ OkS o.st)
    (lp : puts.length ≤ 17592186044416) (lh : holes.length ≤ 4398046511104) (lo : ops.length ≤ 1048576) (w : World) (ap : ArgRow putC w vp puts) (ah : ArgRow holC w vh holes) (ao : ArgRow opC w vo ops) :
    Calls Try.prog 8 #[.agg (staCells s).toArray, vp, vh, vo] w fun e w' => e = .returned (.bool true) ∧ Below w.heap.size w w' := by
  have hX : Blok (w.alloc (.cells (staCells s).toArray 26)) w.heap.size 26 (staCells s) := Blok.new w _ (staCells s)
  have hB : Below w.heap.size w (w.alloc (.cells (staCells s).toArray 26)) := (Below.refl _ _).alloc (Nat.le_refl _) _
  have MD := Lib.hid (fun w => made_is s hs w)
  have NW := Lib.hid (fun w => New_is w)
  have LV := Lib.hid (fun w => live_is w)
  have ok0 := okS_made hs
  have il0 : IL (madeS s) := (isL_iff _ ok0).1 (by unfold madeS; split; assumption; decide)
  have NL := Lib.hid (fun w' (b : Below w.heap.size w w') => NewLine_is puts holes vp vh 17825792 hp hh lp lh (by omega) w' (ap.below b) (ah.below b))
  generalize madeS s = s0 at MD ok0 il0
  clear hp hh lp lh ap ah
  obtain ⟨q, cap, rfl, hq⟩  := ao.rows opC_len (by decide)
  clear ao
  go_enter Try.func8, Try.ntmps8
  go_upto_region 1 with fail
  generalize w.alloc (.cells (staCells s).toArray 26) = w1 at hX hB ⊢
  go_upto_region 5 with (first | (go_at_call 10; (with_reducible refine (LV.out _).mono ?_); rintro e w4 ⟨rfl, b4⟩) | (go_at_call 24; (with_reducible refine (NW.out _).mono ?_); rintro e w3 ⟨rfl, hD, b3⟩) | (go_at_call 9; (with_reducible refine (MD.out _).mono ?_); rintro e w2 ⟨gc, rfl, hC, b2, l2⟩) | (refine wpList_load_mid rfl 26 (.tmp 4) rfl w.heap.size 0 rfl (staCells s) _ hX.range Try.underlying26 rfl (by rw [sta_size, staCells_len]) ?_))
  have hC4 := (hC.below b3 hC.lt).below b4 (Nat.lt_of_lt_of_le hC.lt b3.size)
  have hD4 := hD.below b4 hD.lt
  have B4 := bthen (bthen (bthen hB b2) b3) b4
  have ne : gc ≠ w2.heap.size := by have := hC.lt; omega
  have lc4 : w.heap.size ≤ gc := Nat.le_trans hB.size l2
  have ld4 : w.heap.size ≤ w2.heap.size := Nat.le_trans hB.size b2.size
  clear hC hD hB b2 b3 b4 l2 hX MD LV NW
  generalize w2.heap.size = gd at hD4 ne ld4 ⊢
  go_upto_region 6 with (go_at_call 12; (with_reducible refine (NL.out _ B4).mono ?_); rintro e w5 ⟨gl, OL, rfl, hI, b5, nO⟩)
  have T0 : StI w gc gd gl s0 newSta false ⟨puts, holes, [], 0, 17825792⟩ w5 := by
    have h1 := hC4.lt
    have h2 := hD4.lt
    have h3 := B4.size
    exact ⟨hC4.below b5 h1, hD4.below b5 h2, ne, lc4, ld4, ⟨OL, hI, fun j o => by have := nO j o; exact ⟨by omega, by omega, by omega⟩⟩, bthen B4 b5⟩
  clear hC4 hD4 B4 b5 hI nO NL ne lc4 ld4
  go_wp2_with fail
  go_loopw [12] (fun v12 wr => ∃ k : Nat, v12 = .int .i64 k ∧ k ≤ ops.length ∧ ∃ m s' sd on, OkS s' ∧ IL s' ∧ 17 * ops.length ≤ m.room + 17 * k ∧ StI w gc gd gl s' sd on m wr) (fun v12 _ => ops.length - (intOf v12).toNat)
  case atStart => exact ⟨0, rfl, by omega, _, _, _, _, ok0, il0, by simp; omega, T0⟩
  case round =>
    clear T0 ok0 il0
    obtain ⟨k, rfl, hk, m, s', sd, on, ok, il, hr, T⟩ := hrel
    by_cases h1 : k < ops.length
    · obtain ⟨o, ho1⟩ : ∃ o, ops[k]? = some o := ⟨_, List.getElem?_eq_getElem h1⟩
      have hoo := ho o (List.mem_of_getElem? ho1)
      obtain ⟨g, k0, rfl, hR0⟩ := hq k o ho1
      have hR : wr.rangeAt g (k0 + k * 34) (opC o) := fun j v hv => by
        have z := hR0 j v hv
        exact (T.bel.cell (World.block_lt_of_cell? w _ z)).trans z
      clear hq ho hR0
      have bZ : Below wr.heap.size wr (wr.alloc (.cells (opC zOp).toArray 79)) := (Below.refl _ _).alloc (Nat.le_refl _) _
      have hZ := Blok.new wr 79 (opC zOp)
      go_upto_region 10 with (first | (refine wpList_load_mid rfl 79 (.tmp 39) rfl g (k0 + k * 34) rfl (opC o) _ hR Try.underlying79 rfl (by rw [op_size, opC_len]) ?_) | (refine wpList_store_op rfl (.tmp 13) (.tmp 40) rfl wr.heap.size o zOp rfl rfl hZ ?_; intro w9 hO g9))
      have T9 := T.keep (bgrow bZ g9 (Nat.le_refl _))
      clear T bZ hZ g9 hR
      generalize wr.heap.size = ob at hO ⊢
      have o0 : w9.cell? ⟨ob, 0, none⟩ = some (.int .i64 o.kind) := hO.cell 0
      have o1 : w9.cell? ⟨ob, 1, none⟩ = some (.int .i64 o.n) := hO.cell 1
      have o2 : w9.cell? ⟨ob, 2, none⟩ = some (.bool o.on) := hO.cell 2
      have o3 : w9.cell? ⟨ob, 3, none⟩ = some (.int .u32 o.v) := hO.cell 3
      simp only [Act.put]
      go_upto_block 2 with fail
      go_cut [] from 31 to 105 (fun wx => ∃ m1 s1 on1, OkS s1 ∧ IL s1 ∧ 17 * ops.length ≤ m1.room + 17 * (k + 1) ∧ StI w gc gd gl s1 sd on1 m1 wx)
      case first =>
        have r17 : 17 ≤ m.room := by omega
        have ST := Lib.hid (T9.step ok r17)
        have LI := Lib.hid (Line_is s' on o.on gc 85 w9 T9.c)
        have RT := Lib.hid (Return_is s' on gc 85 o.v ok w9 T9.c)
        have SE := Lib.hid (Set_is s' on gc 85 o.n o.v ok w9 T9.c)
        have LY := Lib.hid (fun h => Load_yes o.st s' on gc 85 (hoo.2 29 (by omega)) w9 T9.c h)
        have LN := Lib.hid (fun h => Load_no o.st s' on gc 85 (hoo.2 29 (by omega)) w9 T9.c h)
        have hOs := opC_sta hO
        have T9 := Lib.hid T9
        rcases Bool.eq_false_or_eq_true (o.kind == 1) with e1 | e1
        · go_wp2_with (go_at_call 13; (with_reducible refine (ST.out).mono ?_); rintro e wz ⟨⟨v, rfl⟩, TZ⟩)
          go_meet
          have lf := line_fuel m s' on
          exact ⟨_, _, _, line_okS m s' on ok, step_il lineF m s' on il ok, by omega, TZ⟩
        rcases Bool.eq_false_or_eq_true (o.kind == 2) with e2 | e2
        · go_wp2_with (go_at_call 23; (with_reducible refine (LI.out).mono ?_); rintro e wz ⟨rfl, hz, gz⟩)
          go_meet
          exact ⟨_, _, _, ok, il, by omega, T9.out.wrote hz gz⟩
        rcases Bool.eq_false_or_eq_true (o.kind == 3) with e3 | e3
        · go_wp2_with (go_at_call 15; (with_reducible refine (RT.out).mono ?_); rintro e wz ⟨rfl, hz, gz⟩)
          go_meet
          exact ⟨_, _, _, okS_ret ok _, il_ret il _, by omega, T9.out.wrote hz gz⟩
        rcases Bool.eq_false_or_eq_true (o.kind == 4) with e4 | e4
        · go_wp2_with (go_at_call 25; (with_reducible refine (SE.out).mono ?_); rintro e wz ⟨rfl, hz, gz⟩)
          go_meet
          exact ⟨_, _, _, okS_setV ok _ _ hoo.1, il_setV il _ _, by omega, T9.out.wrote hz gz⟩
        rcases Bool.eq_false_or_eq_true (o.kind == 6) with e6 | e6
        · rcases Bool.eq_false_or_eq_true (isL o.st) with hl | hl
          · go_wp2_with (first | (refine wpList_load_mid rfl 26 (.tmp 72) rfl ob 4 rfl (staCells o.st) _ hOs Try.underlying26 rfl (by rw [sta_size, staCells_len]) ?_) | (go_at_call 18; (with_reducible refine (LY.out hl).mono ?_); rintro e wz ⟨rfl, hz, gz⟩))
            go_meet
            exact ⟨_, _, _, hoo.2, (isL_iff _ hoo.2).1 hl, by omega, T9.out.wrote hz gz⟩
          · go_wp2_with (first | (refine wpList_load_mid rfl 26 (.tmp 72) rfl ob 4 rfl (staCells o.st) _ hOs Try.underlying26 rfl (by rw [sta_size, staCells_len]) ?_) | (go_at_call 18; (with_reducible refine (LN.out hl).mono ?_); rintro e wz ⟨rfl, bz⟩))
            go_meet
            exact ⟨_, _, _, ok, il, by omega, T9.out.keep bz⟩
        · go_wp2_with fail
          go_meet
          exact ⟨_, _, _, ok, il, by omega, T9.out⟩
      case rest =>
        clear hO o0 o1 o2 o3 T9 hoo ho1 ok il hr
        obtain ⟨m1, s1, on1, ok1, il1, hr1, T1⟩ := hcut
        have SS := Lib.hid (State_is s1 on1 gc 85 wc T1.c)
        go_upto_region 22 with (first | (refine wpList_store_sta rfl (.tmp 14) (.tmp 76) rfl wb.heap.size s1 zSta rfl rfl hZ ?_; intro wd hN gN) | (go_at_call 11; (with_reducible refine (SS.out).mono ?_); rintro e wb ⟨rfl, bb⟩; have hZ := Blok.new wb 26 (staCells zSta)))
        have T2 := T1.keep (bgrow (bb.alloc bb.size (.cells #[.int .u32 0, .int .u32 0, .int .u32 0, .int .u32 0, .int .u32 0, .int .u32 0, .int .u32 0, .int .u32 0, .int .u32 0, .int .u32 0, .int .u32 0, .int .u32 0, .int .u32 0, .int .u32 0, .int .u32 0, .int .u32 0, .int .u32 0, .int .u32 0, .int .u32 0, .int .u32 0, .int .u32 0, .int .u32 0, .int .u32 0, .int .u32 0, .int .u32 0, .int .u32 0, .int .u32 0, .int .u32 0, .int .u32 0, .int .u32 0] 26)) gN bb.size)
        have nc : wb.heap.size ≠ gc := by have := T1.c.lt; have := bb.size; omega
        have nd : wb.heap.size ≠ gd := by have := T1.d.lt; have := bb.size; omega
        clear T1 SS hZ gN bb
        generalize wb.heap.size = nb at hN nc nd ⊢
        have iL := (isL_iff s1 ok1).2 il1
        have IS := Lib.hid (fun w => is_is s1 (ok1 28 (by omega)) (ok1 29 (by omega)) w)
        rw [iL] at IS
        have LD := Lib.hid (fun sq onq gq wq h => Load_yes s1 sq onq gq 85 (ok1 29 (by omega)) wq h iL)
        have SQ := Lib.hid (fun onq gq wq h => State_is s1 onq gq 85 wq h)
        have nq := neq_sta s1
        (refine hwalk_start (S := (fun w' => w'.rangeAt nb 0 (staCells s1))) 28 (by kernel_rfl) (by kernel_rfl) (by kernel_rfl) (by kernel_rfl) (by kernel_rfl) ?_; simp only [List.size_toArray, List.length_cons, List.length_nil, Nat.reduceAdd, Nat.reduceSub, Array.replicate_succ, Array.replicate_zero, List.push_toArray, List.nil_append, List.cons_append])
        have h0 := hN.drewN 1
        have T3 := T2.keep (bdrew (Below.refl _ _))
        have hS := h0.range
        change HWalk _ _ _ _ _ _ _ _ _ wd.drew
        change Blok wd.drew _ _ _ at h0
        change wd.drew.rangeAt nb 0 (staCells s1) at hS
        clear hN T2
        generalize wd.drew = we at h0 T3 hS ⊢
        (refine hwalk_next (d := some 77) (v := .agg ((staCells s1)).toArray) rfl rfl (by kernel_rfl) (by kernel_rfl) (by kernel_rfl) (fun _ _ _ h => h) (yieldsIf_load_mid (by rfl) 26 _ rfl (nb) (0) rfl ((staCells s1)) _ (fun _ h => h) Try.underlying26 rfl (by rw [sta_size]; rfl)) (by with_reducible assumption) ?_; (try simp only [Act.put, List.setIfInBounds_toArray, List.set_cons_zero, List.set_cons_succ, Nat.reduceAdd, Nat.reduceSub]))
        refine hwalk_one (i := 1) rfl (by kernel_rfl) (by kernel_rfl) rfl (fun K hK => ?_)
        go_simp
        go_at_call 26
        (with_reducible refine (IS.out _).mono ?_)
        rintro e w1 ⟨rfl, b1⟩
        have h1 := h0.below b1 h0.lt
        have T4 := T3.keep b1
        have hS1 := h1.range
        refine hK _ _ hS1 ?_
        clear hK K hS h0 T3 b1
        (try simp only [Act.put, List.setIfInBounds_toArray, List.set_cons_zero, List.set_cons_succ, Nat.reduceAdd, Nat.reduceSub])
        (iterate 3 (refine hwalk_next (d := some _) (v := ?_) rfl rfl (by kernel_rfl) (by kernel_rfl) (by kernel_rfl) (fun _ _ _ h => h) (Or.inl ⟨by rfl, ?_⟩) (by with_reducible assumption) ?_; rotate_left 1; (· ((intro w hSw); (try dsimp only at hSw); first | (go_simp; done) | (go_simp; with_reducible rfl))); (try simp only [Act.put, List.setIfInBounds_toArray, List.set_cons_zero, List.set_cons_succ, Nat.reduceAdd, Nat.reduceSub])))
        (refine hwalk_next (d := some 82) (v := .agg ((staCells s1)).toArray) rfl rfl (by kernel_rfl) (by kernel_rfl) (by kernel_rfl) (fun _ _ _ h => h) (yieldsIf_load_mid (by rfl) 26 _ rfl (nb) (0) rfl ((staCells s1)) _ (fun _ h => h) Try.underlying26 rfl (by rw [sta_size]; rfl)) (by with_reducible assumption) ?_; (try simp only [Act.put, List.setIfInBounds_toArray, List.set_cons_zero, List.set_cons_succ, Nat.reduceAdd, Nat.reduceSub]))
        refine hwalk_on (i := 6) rfl (by kernel_rfl) (by kernel_rfl) (by rfl) (fun K hK => ?_)
        go_simp
        go_at_call 18
        (with_reducible refine (LD.out _ _ _ _ T4.c).mono ?_)
        rintro e w2 ⟨rfl, hc2, g2⟩
        have h2 := h1.grown g2 (fun e => nc (Option.some.inj e))
        have T5 := T4.wrote hc2 g2
        have hS2 := h2.range
        refine hK _ _ hS2 ?_
        clear hK K hS1 h1 T4 g2 hc2
        (try simp only [Act.put, List.setIfInBounds_toArray, List.set_cons_zero, List.set_cons_succ, Nat.reduceAdd, Nat.reduceSub])
        refine hwalk_on (i := 7) rfl (by kernel_rfl) (by kernel_rfl) (by rfl) (fun K hK => ?_)
        go_simp
        go_at_call 14
        (with_reducible refine (no_is _ _).mono ?_)
        rintro e wq ⟨rfl, rfl⟩
        refine hK _ _ hS2 ?_
        clear hK K
        (try simp only [Act.put, List.setIfInBounds_toArray, List.set_cons_zero, List.set_cons_succ, Nat.reduceAdd, Nat.reduceSub])
        (iterate 4 (refine hwalk_next (d := some _) (v := ?_) rfl rfl (by kernel_rfl) (by kernel_rfl) (by kernel_rfl) (fun _ _ _ h => h) (Or.inl ⟨by rfl, ?_⟩) (by with_reducible assumption) ?_; rotate_left 1; (· ((intro w hSw); (try dsimp only at hSw); first | (go_simp; done) | (go_simp; with_reducible rfl))); (try simp only [Act.put, List.setIfInBounds_toArray, List.set_cons_zero, List.set_cons_succ, Nat.reduceAdd, Nat.reduceSub])))
        (refine hwalk_take (i := 13) (d := some 90) (v := .agg ((staCells s1)).toArray) rfl (by rfl) (by kernel_rfl) (by kernel_rfl) (by kernel_rfl) (fun _ _ _ h => h) (yieldsIf_load_mid (by rfl) 26 _ rfl (nb) (0) rfl ((staCells s1)) _ (fun _ h => h) Try.underlying26 rfl (by rw [sta_size]; rfl)) (by with_reducible assumption) ?_; (try simp only [Act.put, List.setIfInBounds_toArray, List.set_cons_zero, List.set_cons_succ]))
        refine hwalk_on (i := 12) rfl (by kernel_rfl) (by kernel_rfl) (by rfl) (fun K hK => ?_)
        go_simp
        go_at_call 11
        (with_reducible refine (SQ.out _ _ _ T5.c).mono ?_)
        rintro e w3 ⟨rfl, b3⟩
        have h3 := h2.below b3 h2.lt
        have T6 := T5.keep b3
        have hS3 := h3.range
        refine hK _ _ hS3 ?_
        clear hK K hS2 h2 T5 b3
        (try simp only [Act.put, List.setIfInBounds_toArray, List.set_cons_zero, List.set_cons_succ, Nat.reduceAdd, Nat.reduceSub])
        (iterate 4 (refine hwalk_next (d := some _) (v := ?_) rfl rfl (by kernel_rfl) (by kernel_rfl) (by kernel_rfl) (fun _ _ _ h => h) (Or.inl ⟨by rfl, ?_⟩) (by with_reducible assumption) ?_; rotate_left 1; (· ((intro w hSw); (try dsimp only at hSw); first | (go_simp; done) | (go_simp; with_reducible rfl))); (try simp only [Act.put, List.setIfInBounds_toArray, List.set_cons_zero, List.set_cons_succ, Nat.reduceAdd, Nat.reduceSub])))
        (refine hwalk_next (d := some 95) (v := .agg ((staCells s1)).toArray) rfl rfl (by kernel_rfl) (by kernel_rfl) (by kernel_rfl) (fun _ _ _ h => h) (yieldsIf_load_mid (by rfl) 26 _ rfl (nb) (0) rfl ((staCells s1)) _ (fun _ h => h) Try.underlying26 rfl (by rw [sta_size]; rfl)) (by with_reducible assumption) ?_; (try simp only [Act.put, List.setIfInBounds_toArray, List.set_cons_zero, List.set_cons_succ, Nat.reduceAdd, Nat.reduceSub]))
        refine hwalk_on (i := 19) rfl (by kernel_rfl) (by kernel_rfl) (by rfl) (fun K hK => ?_)
        go_simp
        go_at_call 18
        (with_reducible refine (LD.out _ _ _ _ T6.d).mono ?_)
        rintro e w4 ⟨rfl, hd4, g4⟩
        have h4 := h3.grown g4 (fun e => nd (Option.some.inj e))
        have T7 := T6.wroteD hd4 g4
        have hS4 := h4.range
        refine hK _ _ hS4 ?_
        clear hK K hS3 h3 T6 g4 hd4
        (try simp only [Act.put, List.setIfInBounds_toArray, List.set_cons_zero, List.set_cons_succ, Nat.reduceAdd, Nat.reduceSub])
        refine hwalk_on (i := 20) rfl (by kernel_rfl) (by kernel_rfl) (by rfl) (fun K hK => ?_)
        go_simp
        go_at_call 14
        (with_reducible refine (no_is _ _).mono ?_)
        rintro e wq ⟨rfl, rfl⟩
        refine hK _ _ hS4 ?_
        clear hK K
        (try simp only [Act.put, List.setIfInBounds_toArray, List.set_cons_zero, List.set_cons_succ, Nat.reduceAdd, Nat.reduceSub])
        (iterate 4 (refine hwalk_next (d := some _) (v := ?_) rfl rfl (by kernel_rfl) (by kernel_rfl) (by kernel_rfl) (fun _ _ _ h => h) (Or.inl ⟨by rfl, ?_⟩) (by with_reducible assumption) ?_; rotate_left 1; (· ((intro w hSw); (try dsimp only at hSw); first | (go_simp; done) | (go_simp; with_reducible rfl))); (try simp only [Act.put, List.setIfInBounds_toArray, List.set_cons_zero, List.set_cons_succ, Nat.reduceAdd, Nat.reduceSub])))
        (refine hwalk_take (i := 26) (d := some 103) (v := .agg ((staCells s1)).toArray) rfl (by rfl) (by kernel_rfl) (by kernel_rfl) (by kernel_rfl) (fun _ _ _ h => h) (yieldsIf_load_mid (by rfl) 26 _ rfl (nb) (0) rfl ((staCells s1)) _ (fun _ h => h) Try.underlying26 rfl (by rw [sta_size]; rfl)) (by with_reducible assumption) ?_; (try simp only [Act.put, List.setIfInBounds_toArray, List.set_cons_zero, List.set_cons_succ]))
        refine hwalk_on (i := 25) rfl (by kernel_rfl) (by kernel_rfl) (by rfl) (fun K hK => ?_)
        go_simp
        go_at_call 11
        (with_reducible refine (SQ.out _ _ _ T7.d).mono ?_)
        rintro e w5 ⟨rfl, b5⟩
        have h5 := h4.below b5 h4.lt
        have T8 := T7.keep b5
        have hS5 := h5.range
        refine hK _ _ hS5 ?_
        clear hK K hS4 h4 T7 b5
        (try simp only [Act.put, List.setIfInBounds_toArray, List.set_cons_zero, List.set_cons_succ, Nat.reduceAdd, Nat.reduceSub])
        (iterate 1 (refine hwalk_next (d := some _) (v := ?_) rfl rfl (by kernel_rfl) (by kernel_rfl) (by kernel_rfl) (fun _ _ _ h => h) (Or.inl ⟨by rfl, ?_⟩) (by with_reducible assumption) ?_; rotate_left 1; (· ((intro w hSw); (try dsimp only at hSw); first | (go_simp; done) | (go_simp; with_reducible rfl))); (try simp only [Act.put, List.setIfInBounds_toArray, List.set_cons_zero, List.set_cons_succ, Nat.reduceAdd, Nat.reduceSub])))
        refine hwalk_done (by kernel_rfl) ?_
        simp only [List.drop_succ_cons, List.drop_zero]
        go_wp2_with fail
        go_roundw
        case rel => exact ⟨k + 1, by go_num, by omega, m1, s1, s1, on1, ok1, il1, by omega, T8⟩
        case measure => simp [intOf]; omega
    · clear hq ho ok il hr
      go_wp2_with fail
      go_ret
      exact ⟨rfl, T.bel⟩
end Go.Proofs.Ytpfhplhamnohjaa
