/- Layer 20: the walk of the law CpuAgain. -/
import Derived.Test.YtpfhplhamnohjaaUZdm
namespace Go.Proofs.Ytpfhplhamnohjaa
set_option maxHeartbeats 25600000
set_option maxRecDepth 100000
open Go.RowKit

set_option linter.unusedSimpArgs false
structure Bx (b tb : Nat) (s : Sta) (t : Tk) (w : World) : Prop where
  x : Blok w b 26 (staCells s)
  t : Blok w tb 38 (tkCells t)
theorem Bx.below {b tb : Nat} {s : Sta} {t : Tk} {w w' : World} (h : Bx b tb s t w) (k : Below w.heap.size w w') : Bx b tb s t w' := ⟨h.x.below k h.x.lt, h.t.below k h.t.lt⟩
theorem Ag.ext {w wr : World} {gc gd gl : Nat} {m : LineM} {s sd : Sta} {A : Nat → Prop} (h : Ag w gc gd gl s sd m A wr) (j : Nat) (q : A j) : j ≠ gc := by
  obtain ⟨O, _, _, f⟩ := h.ex
  exact (f j q).2.1
theorem again_walk (s : Sta) (hs : OkS s) (puts : List (Int × Int)) (holes : List Hol) (vp vh : Value) (hp : ∀ p ∈ puts, (0 ≤ p.1 ∧ p.1 < 4294967296) ∧ (0 ≤ p.2 ∧ p.2 < 4294967296)) (hh : ∀ h ∈ holes, (0 ≤ h.lo ∧ h.lo < 4294967296) ∧ (0 ≤ h.hi ∧ h.hi < 4294967296))
    (lp : puts.length ≤ 17592186044416) (lh : holes.length ≤ 4398046511104) (w : World) (ap : ArgRow putC w vp puts) (ah : ArgRow holC w vh holes) :
    Calls Try.prog 3 #[.agg (staCells s).toArray, vp, vh] w fun e w' => e = .returned (.bool true) ∧ Below w.heap.size w w' := by
  have hX : Blok (w.alloc (.cells (staCells s).toArray 26)) w.heap.size 26 (staCells s) := Blok.new w _ (staCells s)
  have hB : Below w.heap.size w (w.alloc (.cells (staCells s).toArray 26)) := (Below.refl _ _).alloc (Nat.le_refl _) _
  have MD := Lib.hid (fun w => made_is s hs w)
  have LV := Lib.hid (fun w => live_is w)
  have NB := Lib.hid (fun w' (b : Below w.heap.size w w') => NewLine_is puts holes vp vh 100 hp hh lp lh (by omega) w' (ap.below b) (ah.below b))
  have NE := Lib.hid (fun w' (b : Below w.heap.size w w') => NewLine_is puts [] vp (.slice none 0 0) 100 hp (fun h q => by cases q) lp (by simp) (by omega) w' (ap.below b) (.inl ⟨rfl, rfl⟩))
  have ok0 := okS_made hs
  have il0 : IL (madeS s) := (isL_iff _ ok0).1 (made_isL s)
  generalize madeS s = s0 at MD ok0 il0
  clear hp hh lp lh ap ah
  go_enter Try.func3, Try.ntmps3
  go_upto_region 1 with fail
  generalize w.alloc (.cells (staCells s).toArray 26) = w1 at hX hB ⊢
  go_upto_region 2 with (first | (go_at_call 9; (with_reducible refine (MD.out _).mono ?_); rintro e w2 ⟨gc, rfl, hC, b2, l2⟩) | (refine wpList_load_mid rfl 26 (.tmp 3) rfl w.heap.size 0 rfl (staCells s) _ hX.range Try.underlying26 rfl (by rw [sta_size, staCells_len]) ?_))
  have hX2 := hX.below b2 hX.lt
  go_upto_region 5 with (first | (go_at_call 10; (with_reducible refine (LV.out _).mono ?_); rintro e w4 ⟨rfl, b4⟩) | (go_at_call 9; (with_reducible refine (MD.out _).mono ?_); rintro e w3 ⟨gd, rfl, hD, b3, l3⟩) | (refine wpList_load_mid rfl 26 (.tmp 3) rfl w.heap.size 0 rfl (staCells s) _ hX2.range Try.underlying26 rfl (by rw [sta_size, staCells_len]) ?_))
  have hC4 := (hC.below b3 hC.lt).below b4 (Nat.lt_of_lt_of_le hC.lt b3.size)
  have hD4 := hD.below b4 hD.lt
  have hX4 := (hX2.below b3 hX2.lt).below b4 (Nat.lt_of_lt_of_le hX2.lt b3.size)
  have B4 := bthen (bthen (bthen hB b2) b3) b4
  have ne : gc ≠ gd := by have := hC.lt; omega
  have lg : w.heap.size < gc := by have := hX.lt; omega
  have ld : w.heap.size < gd := by have := hX.lt; have := b2.size; omega
  clear hX hX2 hC hD b2 b3 b4 l2 l3 MD LV hB
  have SS := Lib.hid (State_is s0 false gc 85 w4 hC4)
  go_upto_region 6 with (first | (refine wpList_store_sta rfl (.tmp 3) (.tmp 33) rfl w.heap.size s0 s rfl rfl hX5 ?_; intro w6 hX6 g6) | (go_at_call 11; (with_reducible refine (SS.out).mono ?_); rintro e w5 ⟨rfl, b5⟩; have hX5 := hX4.below b5 hX4.lt))
  have hC6 := (hC4.below b5 hC4.lt).grown g6 (fun e => by have := Option.some.inj e; omega)
  have hD6 := (hD4.below b5 hD4.lt).grown g6 (fun e => by have := Option.some.inj e; omega)
  have B6 : Below w.heap.size w w6 := bgrow (bthen B4 b5) g6 (Nat.le_refl _)
  clear hC4 hD4 hX4 hX5 B4 b5 g6 SS
  have c29 := sta_cell hX6 29 (by omega)
  have u29 := ok0 29 (by omega)
  have m2 : bits .and .u32 (s0 29) 31 = s0 29 % 32 := and32 5 (by decide) _ u29.1 (by simpa using u29.2)
  have d1 : wrap64 (s0 29 % 32) = s0 29 % 32 := by unfold wrap64; omega
  rcases Bool.eq_false_or_eq_true (s0 29 % 32 == 23) with hm | hm
  · go_wp2_with fail
    go_ret
    exact ⟨rfl, B6⟩
  have NL := Lib.hid (NB.out w6 B6)
  have AL := Lib.hid (fun hk => again_law puts holes 100 100 s0 ok0 il0 (by simpa using hm) hk)
  go_upto_region 9 with (go_at_call 12; (with_reducible refine (NL.out).mono ?_); rintro e w8 ⟨gl, OL, rfl, hI, b8, nO⟩)
  have hX8 := hX6.below b8 hX6.lt
  have T8 : Ag w gc gd gl s0 s0 ⟨puts, holes, [], 0, 100⟩ (fun j => j = w.heap.size) w8 := by
    have h1 := hC6.lt
    have h2 := hD6.lt
    have h3 := hX6.lt
    have h4 := B6.size
    exact ⟨hC6.below b8 h1, hD6.below b8 h2, ne, by omega, by omega, ⟨OL, hI, fun j o => by have := nO j o; exact ⟨by omega, by omega, by omega⟩, fun j e => by subst e; exact ⟨hX8.lt, by omega, by omega, fun o => by have := nO _ o; omega⟩⟩, bthen B6 b8⟩
  clear hC6 hD6 hX6 B6 b8 hI nO NB NL c29 m2 d1 hm
  have ST := T8.step ok0 (by simp)
  have ok1 := line_okS ⟨puts, holes, [], 0, 100⟩ s0 false ok0
  have rm1 := line_fuel ⟨puts, holes, [], 0, 100⟩ s0 false
  generalize stepO lineF ⟨puts, holes, [], 0, 100⟩ s0 false = r at ST AL ok1 rm1
  obtain ⟨m1, s1, t⟩ := r
  dsimp only at ST AL ok1 rm1
  unfold tkV at ST
  have ST := Lib.hid ST
  go_upto_region 10 with (go_at_call 13; (with_reducible refine (ST.out).mono ?_); rintro e w9 ⟨rfl, T9, a9⟩)
  have hX9 : Blok w9 w.heap.size 26 (staCells s0) := (a9 _ rfl).trans hX8
  change Code.wp _ _ _ _ (w9.alloc (tkO t))
  have hT : Blok (w9.alloc (tkO t)) w9.heap.size 38 (tkCells t) := Blok.new w9 _ (tkCells t)
  have bT : Below w9.heap.size w9 (w9.alloc (tkO t)) := (Below.refl _ _).alloc (Nat.le_refl _) _
  have hXT := hX9.below bT hX9.lt
  have TT := T9.keep bT (B := fun j => j = w.heap.size ∨ j = w9.heap.size) (fun j q => q.elim (fun e => .inl e) (fun e => .inr ⟨by omega, by rw [e]; simp⟩))
  have htb : w.heap.size ≤ w9.heap.size := T9.bel.size
  clear hX9 bT T9 a9 ST T8 hX8
  generalize w9.alloc (tkO t) = wa at hT hXT TT ⊢
  generalize w9.heap.size = tb at hT TT htb ⊢
  go_upto_region 12 with (go_at_call 14; (with_reducible refine (no_is _ _).mono ?_); rintro e wq ⟨rfl, rfl⟩)
  have t0 : wa.cell? ⟨tb, 0, none⟩ = some (.int .i64 t.kind) := hT.cell 0
  have t4 : wa.cell? ⟨tb, 4, none⟩ = some (.int .i64 t.fk) := hT.cell 4
  have t5 : wa.cell? ⟨tb, 5, none⟩ = some (.int .i64 t.fl) := hT.cell 5
  have t6 : wa.cell? ⟨tb, 6, none⟩ = some (.int .i64 t.fd) := hT.cell 6
  by_cases hk : t.kind = 4 ∨ (t.kind = 3 ∧ ¬ (t.fk = 0 ∧ t.fl = 0 ∧ t.fd = 0))
  rotate_left
  · rcases Bool.eq_false_or_eq_true (t.kind == 3) with e3 | e3
    · have e4 : (t.kind == 4) = false := by have := beq_iff_eq.1 e3; rw [this]; rfl
      have n4 : (t.kind != 4) = true := by unfold bne; rw [e4]; rfl
      have n3 : (t.kind != 3) = false := by unfold bne; rw [e3]; rfl
      have ft : t.fk = 0 ∧ t.fl = 0 ∧ t.fd = 0 := Classical.byContradiction fun h => hk (.inr ⟨beq_iff_eq.1 e3, h⟩)
      obtain ⟨z1, z2, z3⟩ := ft
      rw [z1] at t4
      rw [z2] at t5
      rw [z3] at t6
      clear hk
      go_wp2_with fail
      go_ret
      exact ⟨rfl, TT.bel⟩
    · have e4 : (t.kind == 4) = false := by
        rw [beq_eq_false_iff_ne]
        exact fun e => hk (.inl e)
      have n4 : (t.kind != 4) = true := by unfold bne; rw [e4]; rfl
      have n3 : (t.kind != 3) = true := by unfold bne; rw [e3]; rfl
      clear hk
      go_wp2_with fail
      go_ret
      exact ⟨rfl, TT.bel⟩
  have AG := AL.out hk
  have AF : ¬ (t.fk = 0 ∧ t.fl = 0 ∧ t.fd = 0) := AG.fault
  have FC : ¬ t.fk = 0 ∨ (t.fk = 0 ∧ ¬ t.fl = 0) ∨ (t.fk = 0 ∧ t.fl = 0 ∧ ¬ t.fd = 0) := by omega
  have KC : ((t.kind == 4) = true ∧ (t.kind == 3) = false) ∨ ((t.kind == 4) = false ∧ (t.kind == 3) = true) := by
    rcases hk with h | h
    · rw [h]; exact .inl ⟨rfl, rfl⟩
    · rw [h.1]; exact .inr ⟨rfl, rfl⟩
  clear AL hk AF
  go_cut [65] (fun s65 wx => s65 = .bool false ∧ wx = wa)
  case first =>
    rcases KC with ⟨e4, e3⟩ | ⟨e4, e3⟩
    · have n4 : (t.kind != 4) = false := by unfold bne; rw [e4]; rfl
      go_wp2_with fail
      go_meet
      exact ⟨rfl, rfl⟩
    · have n4 : (t.kind != 4) = true := by unfold bne; rw [e4]; rfl
      have n3 : (t.kind != 3) = false := by unfold bne; rw [e3]; rfl
      rcases FC with z1 | ⟨z1, z2⟩ | ⟨z1, z2, z3⟩
      · go_wp2_with fail
        go_meet
        exact ⟨rfl, rfl⟩
      · rw [z1] at t4
        go_wp2_with fail
        go_meet
        exact ⟨rfl, rfl⟩
      · rw [z1] at t4
        rw [z2] at t5
        go_wp2_with fail
        go_meet
        exact ⟨rfl, rfl⟩
  case rest =>
  obtain ⟨rfl, rfl⟩ := hcut
  go_upto_if 68 with fail
  go_cut [12] (fun s12 wx => s12 = .int .u32 (if t.kind = 3 then 4 else 8) ∧ wx = wc)
  case first =>
    rcases KC with ⟨e4, e3⟩ | ⟨e4, e3⟩
    · go_wp2_with fail
      go_meet
      exact ⟨by rw [if_neg (by simpa using e3)], rfl⟩
    · go_wp2_with fail
      go_meet
      exact ⟨by rw [if_pos (by simpa using e3)], rfl⟩
  case rest =>
  obtain ⟨rfl, rfl⟩ := hcut
  have ok2 := okS_ret ok1 (if t.kind = 3 then 4 else 8)
  have ab : (retV s1 (if t.kind = 3 then 4 else 8)).2 = 0 := AG.back
  have aq : EQ2 s0 (retV s1 (if t.kind = 3 then 4 else 8)).1 := AG.same
  have aa : t.at_ = s0 28 := AG.at_
  have ar : (t.kind = 4 → wordI m1.puts (s0 28) = t.word) →
    (stepO lineF { m1 with holes := [] } (retV s1 (if t.kind = 3 then 4 else 8)).1 false).2.2 = (stepO lineF ⟨puts, [], [], 0, 100⟩ s0 false).2.2 ∧
    EQ2 (stepO lineF ⟨puts, [], [], 0, 100⟩ s0 false).2.1 (stepO lineF { m1 with holes := [] } (retV s1 (if t.kind = 3 then 4 else 8)).1 false).2.1 ∧
    ∀ a, wordI (stepO lineF { m1 with holes := [] } (retV s1 (if t.kind = 3 then 4 else 8)).1 false).1.puts a = wordI (stepO lineF ⟨puts, [], [], 0, 100⟩ s0 false).1.puts a := AG.redo
  clear AG
  generalize (if t.kind = 3 then (4 : Int) else 8) = back at ok2 ab aq ar ⊢
  have RT := Lib.hid (fun wq h => Return_is s1 false gc 85 back ok1 wq h)
  generalize retV s1 back = rv at ok2 ab aq ar RT
  obtain ⟨s2, e2⟩ := rv
  dsimp only at ok2 ab aq ar RT
  subst ab
  have weq := wo_eq aq
  have SQ := Lib.hid (fun wq h => State_is s2 false gc 85 wq h)
  have W1 := Lib.hid (fun wq => without_is s2 wq)
  have W2 := Lib.hid (fun wq => without_is s0 wq)
  rw [weq] at W1
  have nq := neq_sta (wo s0)
  have nb : w.heap.size ≠ gc := TT.ext _ (.inl rfl)
  have nt : tb ≠ gc := TT.ext _ (.inr rfl)
  clear t0 t4 t5 t6
  go_upto_region 17 with fail
  go_cut [94] (fun s94 wx => s94 = .bool false ∧ Bx w.heap.size tb s0 t wx ∧ Ag w gc gd gl s2 s0 m1 (fun j => j = w.heap.size ∨ j = tb) wx)
  case first =>
    have f1 : ∀ w', Bx w.heap.size tb s0 t w' → w'.cell? ⟨tb, 1, none⟩ = some (.int .u32 (s0 28)) := fun w' h => (h.t.cell 1).trans (by rw [← aa]; rfl)
    have f4 : ∀ w', Bx w.heap.size tb s0 t w' → w'.cell? ⟨tb, 4, none⟩ = some (.int .i64 t.fk) := fun w' h => h.t.cell 4
    have f5 : ∀ w', Bx w.heap.size tb s0 t w' → w'.cell? ⟨tb, 5, none⟩ = some (.int .i64 t.fl) := fun w' h => h.t.cell 5
    have f6 : ∀ w', Bx w.heap.size tb s0 t w' → w'.cell? ⟨tb, 6, none⟩ = some (.int .i64 t.fd) := fun w' h => h.t.cell 6
    have x8 : ∀ w', Bx w.heap.size tb s0 t w' → w'.cell? ⟨w.heap.size, 28, none⟩ = some (.int .u32 (s0 28)) := fun w' h => sta_cell h.x 28 (by omega)
    (refine hwalk_start (S := (fun w' => Bx w.heap.size tb s0 t w')) 25 (by kernel_rfl) (by kernel_rfl) (by kernel_rfl) (by kernel_rfl) (by kernel_rfl) ?_; simp only [List.size_toArray, List.length_cons, List.length_nil, Nat.reduceAdd, Nat.reduceSub, Array.replicate_succ, Array.replicate_zero, List.push_toArray, List.nil_append, List.cons_append])
    have hS : Bx w.heap.size tb s0 t wc.drew := ⟨hXT.drewN 1, hT.drewN 1⟩
    have T1 := TT.keep (bdrew (Below.refl _ _)) (fun j q => .inl q)
    change HWalk _ _ _ _ _ _ _ _ _ wc.drew
    clear hXT hT TT
    change Ag _ _ _ _ _ _ _ _ wc.drew at T1
    generalize wc.drew = wd at hS T1 ⊢
    (iterate 2 (refine hwalk_next (d := some _) (v := ?_) rfl rfl (by kernel_rfl) (by kernel_rfl) (by kernel_rfl) (fun _ _ _ h => h) (Or.inl ⟨by rfl, ?_⟩) (by with_reducible assumption) ?_; rotate_left 1; (· ((intro w hSw); (try dsimp only at hSw); first | (go_simp; done) | (go_simp; with_reducible rfl))); (try simp only [Act.put, List.setIfInBounds_toArray, List.set_cons_zero, List.set_cons_succ, Nat.reduceAdd, Nat.reduceSub])))
    refine hwalk_one (i := 2) rfl (by kernel_rfl) (by kernel_rfl) rfl (fun K hK => ?_)
    go_simp
    go_at_call 15
    (with_reducible refine (RT.out _ T1.c).mono ?_)
    rintro e w2 ⟨rfl, hc2, g2⟩
    have hS2 : Bx w.heap.size tb s0 t w2 := ⟨hS.x.grown g2 (fun e => nb (Option.some.inj e)), hS.t.grown g2 (fun e => nt (Option.some.inj e))⟩
    have T2 := T1.wrote hc2 g2
    refine hK _ _ hS2 ?_
    clear hK K hS T1 g2 hc2
    (try simp only [Act.put, List.setIfInBounds_toArray, List.set_cons_zero, List.set_cons_succ, Nat.reduceAdd, Nat.reduceSub])
    refine hwalk_one (i := 3) rfl (by kernel_rfl) (by kernel_rfl) rfl (fun K hK => ?_)
    go_simp
    go_at_call 14
    (with_reducible refine (no_is _ _).mono ?_)
    rintro e wq ⟨rfl, rfl⟩
    refine hK _ _ hS2 ?_
    clear hK K
    (try simp only [Act.put, List.setIfInBounds_toArray, List.set_cons_zero, List.set_cons_succ, Nat.reduceAdd, Nat.reduceSub])
    (iterate 3 (refine hwalk_next (d := some _) (v := ?_) rfl rfl (by kernel_rfl) (by kernel_rfl) (by kernel_rfl) (fun _ _ _ h => h) (Or.inl ⟨by rfl, ?_⟩) (by with_reducible assumption) ?_; rotate_left 1; (· ((intro w hSw); (try dsimp only at hSw); first | (go_simp; done) | (go_simp; with_reducible rfl))); (try simp only [Act.put, List.setIfInBounds_toArray, List.set_cons_zero, List.set_cons_succ, Nat.reduceAdd, Nat.reduceSub])))
    (refine hwalk_take (i := 9) (d := some 78) (v := .agg ((staCells s0)).toArray) rfl (by rfl) (by kernel_rfl) (by kernel_rfl) (by kernel_rfl) (fun _ _ _ h => h) (yieldsIf_load_mid (by rfl) 26 _ rfl (w.heap.size) (0) rfl ((staCells s0)) _ (fun _ h => h.x.range) Try.underlying26 rfl (by rw [sta_size]; rfl)) (by with_reducible assumption) ?_; (try simp only [Act.put, List.setIfInBounds_toArray, List.set_cons_zero, List.set_cons_succ]))
    refine hwalk_if (i := 7) rfl (by kernel_rfl) (by kernel_rfl) (by rfl) (fun K hK => ?_)
    go_simp
    go_at_call 11
    (with_reducible refine (SQ.out _ T2.c).mono ?_)
    rintro e w3 ⟨rfl, b3⟩
    have hS3 := hS2.below b3
    have T3 := T2.keep b3 (fun j q => .inl q)
    refine hK _ _ hS3 ?_
    clear hK K hS2 T2 b3
    (try simp only [Act.put, List.setIfInBounds_toArray, List.set_cons_zero, List.set_cons_succ, Nat.reduceAdd, Nat.reduceSub])
    refine hwalk_if (i := 8) rfl (by kernel_rfl) (by kernel_rfl) (by rfl) (fun K hK => ?_)
    go_simp
    go_at_call 16
    (with_reducible refine (W1.out _).mono ?_)
    rintro e w4 ⟨rfl, b4⟩
    have hS4 := hS3.below b4
    have T4 := T3.keep b4 (fun j q => .inl q)
    refine hK _ _ hS4 ?_
    clear hK K hS3 T3 b4
    (try simp only [Act.put, List.setIfInBounds_toArray, List.set_cons_zero, List.set_cons_succ, Nat.reduceAdd, Nat.reduceSub])
    refine hwalk_if (i := 10) rfl (by kernel_rfl) (by kernel_rfl) (by rfl) (fun K hK => ?_)
    go_simp
    go_at_call 16
    (with_reducible refine (W2.out _).mono ?_)
    rintro e w5 ⟨rfl, b5⟩
    have hS5 := hS4.below b5
    have T5 := T4.keep b5 (fun j q => .inl q)
    refine hK _ _ hS5 ?_
    clear hK K hS4 T4 b5
    (try simp only [Act.put, List.setIfInBounds_toArray, List.set_cons_zero, List.set_cons_succ, Nat.reduceAdd, Nat.reduceSub])
    rcases FC with z1 | ⟨z1, z2⟩ | ⟨z1, z2, z3⟩
    · (iterate 14 (refine hwalk_next (d := some _) (v := ?_) rfl rfl (by kernel_rfl) (by kernel_rfl) (by kernel_rfl) (fun _ _ _ h => h) (Or.inl ⟨by rfl, ?_⟩) (by with_reducible assumption) ?_; rotate_left 1; (· ((intro w hSw); (try dsimp only at hSw); first | (go_simp; done) | (go_simp; with_reducible rfl))); (try simp only [Act.put, List.setIfInBounds_toArray, List.set_cons_zero, List.set_cons_succ, Nat.reduceAdd, Nat.reduceSub])))
      refine hwalk_done (by kernel_rfl) ?_
      simp only [List.drop_succ_cons, List.drop_zero]
      go_wp2_with fail
      go_meet
      exact ⟨rfl, hS5, T5⟩
    · rw [z1] at f4
      (iterate 14 (refine hwalk_next (d := some _) (v := ?_) rfl rfl (by kernel_rfl) (by kernel_rfl) (by kernel_rfl) (fun _ _ _ h => h) (Or.inl ⟨by rfl, ?_⟩) (by with_reducible assumption) ?_; rotate_left 1; (· ((intro w hSw); (try dsimp only at hSw); first | (go_simp; done) | (go_simp; with_reducible rfl))); (try simp only [Act.put, List.setIfInBounds_toArray, List.set_cons_zero, List.set_cons_succ, Nat.reduceAdd, Nat.reduceSub])))
      refine hwalk_done (by kernel_rfl) ?_
      simp only [List.drop_succ_cons, List.drop_zero]
      go_wp2_with fail
      go_meet
      exact ⟨rfl, hS5, T5⟩
    · rw [z1] at f4
      rw [z2] at f5
      (iterate 14 (refine hwalk_next (d := some _) (v := ?_) rfl rfl (by kernel_rfl) (by kernel_rfl) (by kernel_rfl) (fun _ _ _ h => h) (Or.inl ⟨by rfl, ?_⟩) (by with_reducible assumption) ?_; rotate_left 1; (· ((intro w hSw); (try dsimp only at hSw); first | (go_simp; done) | (go_simp; with_reducible rfl))); (try simp only [Act.put, List.setIfInBounds_toArray, List.set_cons_zero, List.set_cons_succ, Nat.reduceAdd, Nat.reduceSub])))
      refine hwalk_done (by kernel_rfl) ?_
      simp only [List.drop_succ_cons, List.drop_zero]
      go_wp2_with fail
      go_meet
      exact ⟨rfl, hS5, T5⟩
  case rest =>
  obtain ⟨rfl, hBx, T5⟩ := hcut
  clear RT SQ W1 W2 nq FC hXT hT TT ok1
  go_upto_region 19 with fail
  go_cut [106] (fun s106 wx => ∃ c, s106 = .bool c ∧ (c = false → t.kind = 4 → wordI m1.puts (s0 28) = t.word) ∧ Below wc.heap.size wc wx)
  case first =>
    obtain ⟨O, hI, _⟩ := T5.ex
    have LW := Lib.hid (fun q => LineWord_is gl m1 O (s0 28) (grow wc q) (hI.keep (GrownS.ofBelow (S := fun _ => False) (grow_below wc q)) (fun _ _ q => q)))
    have t0 := fun q => (hBx.below (grow_below wc q)).t.cell 0
    have t1 := fun q => (hBx.below (grow_below wc q)).t.cell 1
    have t2 := fun q => (hBx.below (grow_below wc q)).t.cell 2
    simp only [tkCells, List.getElem?_cons_zero, List.getElem?_cons_succ, aa] at t0 t1 t2
    clear hI
    rcases KC with ⟨e4, e3⟩ | ⟨e4, e3⟩
    · (refine wp_region_grow (by kernel_rfl) (by kernel_rfl) ?_; (repeat (go_big_quiet_step ((go_at_call 17; exact calls_grow (LW.out _))))); refine wpQuiet_nil ?_; intro _ hw'; obtain ⟨ew, hw''⟩ := hw'; subst hw'')
      go_wp2_with fail
      go_meet
      exact ⟨_, rfl, fun h _ => by simpa using h, grow_below wc ew⟩
    · (refine wp_region_grow (by kernel_rfl) (by kernel_rfl) ?_; (repeat (go_big_quiet_step (fail))); refine wpQuiet_nil ?_; intro _ hw'; obtain ⟨ew, hw''⟩ := hw'; subst hw'')
      go_wp2_with fail
      go_meet
      exact ⟨_, rfl, fun _ h => absurd h (by simpa using e4), grow_below wc ew⟩
  case rest =>
  obtain ⟨c, rfl, hw, bw⟩ := hcut
  have hB6 := hBx.below bw
  have T6 := T5.keep bw (fun j q => .inl q)
  clear hBx T5 bw KC
  cases c
  rotate_left
  · go_wp2_with fail
    go_ret
    exact ⟨rfl, T6.bel⟩
  have AR := ar (hw rfl)
  clear ar hw
  obtain ⟨F6, F6h⟩ := T6.free
  have hB7 : Bx w.heap.size tb s0 t _ := ⟨(F6h _ (.inl rfl)).trans hB6.x, (F6h _ (.inr rfl)).trans hB6.t⟩
  obtain ⟨c1, f1⟩ : (∃ v, (_ : World).cell? ⟨gl, 1, none⟩ = some v) ∧ (_ : World).frozen? ⟨gl, 1, none⟩ = false := by
    obtain ⟨O, a, _⟩ := T6.ex
    obtain ⟨vp1, vh1, va1, hb, _⟩ := a.ex
    exact ⟨⟨vh1, hb.cell 1⟩, hb.frozen 1⟩
  obtain ⟨vh1, c1⟩ := c1
  clear T6 hB6 F6h
  go_upto_region 22 with fail
  generalize wc.setCell ⟨gl, 1, none⟩ (.slice none 0 0) = we at F6 hB7 ⊢
  clear c1 f1
  have NL2 := Lib.hid (NE.out we F6.bel)
  go_upto_region 23 with (go_at_call 12; (with_reducible refine (NL2.out).mono ?_); rintro e w8 ⟨g2, O2, rfl, hI2, b8, nO2⟩)
  have T8 := F6.two b8 hI2 nO2
  have hT8 := hB7.t.below b8 hB7.t.lt
  clear hB7 F6 hI2 b8 nO2 NL2 NE
  have ST := T8.stepC ok2 (show 17 ≤ m1.room by omega)
  have SD := fun wq mx sx (h : Two w gc gd gl g2 mx sx ⟨puts, [], [], 0, 100⟩ s0 (fun j => j = w.heap.size ∨ j = tb) wq) => h.swap.stepC ok0 (show 17 ≤ 100 by omega)
  clear T8
  generalize stepO lineF { m1 with holes := [] } s2 false = x at ST AR
  generalize stepO lineF ⟨puts, [], [], 0, 100⟩ s0 false = y at SD AR
  obtain ⟨mx, sx, tx⟩ := x
  obtain ⟨my, sy, ty⟩ := y
  dsimp only at ST SD AR
  obtain ⟨rfl, aE, aW⟩ := AR
  unfold tkV at ST SD
  have ST := Lib.hid ST
  have SD := Lib.hid SD
  go_upto_region 24 with (first | (refine wpList_store_tk rfl (.tmp 10) (.tmp 117) rfl tb tx t rfl rfl hT9 ?_; intro w10 hT10 g10) | (go_at_call 13; (with_reducible refine (ST.out).mono ?_); rintro e w9 ⟨rfl, T9, a9⟩; have hT9 : Blok w9 tb 38 (tkCells t) := (a9 _ (.inr rfl)).trans hT8))
  have T10 := T9.wroteA g10 (.inr rfl) htb
  clear T9 a9 g10 hT9 hT8 ST
  go_upto_region 25 with (go_at_call 13; (with_reducible refine (SD.out _ _ _ T10).mono ?_); rintro e w11 ⟨rfl, T11, a11⟩)
  have hT11 : Blok w11 tb 38 (tkCells tx) := (a11 _ (.inr rfl)).trans hT10
  change Code.wp _ _ _ _ (w11.alloc (tkO tx))
  have hU : Blok (w11.alloc (tkO tx)) w11.heap.size 38 (tkCells tx) := Blok.new w11 _ (tkCells tx)
  have hT12 := hT11.alloc (tkO tx)
  have T12 := T11.swap.keep (w' := w11.alloc (tkO tx)) ((Below.refl _ _).alloc (Nat.le_refl _) _) (fun _ => False) (fun j e => e.elim)
  clear T10 hT10 T11 a11 hT11 SD
  generalize w11.alloc (tkO tx) = wf at hU hT12 T12 ⊢
  generalize w11.heap.size = tb2 at hU ⊢
  go_cut [142] (fun s142 wx => s142 = .bool false ∧ Two w gc gd gl g2 mx sx my sy (fun _ => False) wx)
  case first =>
    have weq2 := wo_eq aE
    have S1 := Lib.hid (State_is sx false gc 85 wf T12.c)
    have S2 := Lib.hid (fun wq (b : Below wf.heap.size wf wq) => State_is sy false gd 85 wq (T12.d.below b T12.d.lt))
    have W1 := Lib.hid (fun wq => without_is sx wq)
    have W2 := Lib.hid (fun wq => without_is sy wq)
    rw [weq2] at W1
    have nq := neq_took tx
    have nr := neq_sta (wo sy)
    have rT := hT12.range
    have rU := hU.range
    go_wp2_with (first | (go_at_call 16; first | ((with_reducible refine (W1.out _).mono ?_); rintro e w14 ⟨rfl, b14⟩) | ((with_reducible refine (W2.out _).mono ?_); rintro e w16 ⟨rfl, b16⟩)) | (go_at_call 11; first | ((with_reducible refine (S1.out).mono ?_); rintro e w13 ⟨rfl, b13⟩) | ((with_reducible refine (S2.out _ (bthen b13 b14)).mono ?_); rintro e w15 ⟨rfl, b15⟩)) | (refine wpList_load_mid rfl 38 (.tmp 10) rfl tb 0 rfl (tkCells tx) _ rT Try.underlying38 rfl (by rw [took_size, tkCells_len]) ?_) | (refine wpList_load_mid rfl 38 (.tmp 14) rfl tb2 0 rfl (tkCells tx) _ rU Try.underlying38 rfl (by rw [took_size, tkCells_len]) ?_))
    go_meet
    exact ⟨rfl, T12.keep (bthen (bthen b13 b14) (bthen b15 b16)) (fun _ => False) (fun j e => e.elim)⟩
  case rest =>
  obtain ⟨rfl, T13⟩ := hcut
  clear T12 hU hT12 aE
  go_wp2_with fail
  go_loopw [16] (fun v16 wr => ∃ k : Nat, v16 = .int .i64 k ∧ k ≤ mx.asked.length ∧ Two w gc gd gl g2 mx sx my sy (fun _ => False) wr) (fun v16 _ => mx.asked.length - (intOf v16).toNat)
  case atStart => exact ⟨0, rfl, by omega, T13⟩
  case round =>
    clear T13
    obtain ⟨k, rfl, hk, T⟩ := hrel
    obtain ⟨O1, O2, hA, hB2, _⟩ := T.ex
    obtain ⟨vp1, vh1, va1, hb, _, _, r3, _⟩ := hA.ex
    have l3 := r3.len
    have c2 : wr.cell? ⟨gl, 2, none⟩ = some va1 := hb.cell 2
    have s3 := r3.small
    by_cases h1 : k < mx.asked.length
    · obtain ⟨x, hx⟩ : ∃ x, mx.asked[k]? = some x := ⟨_, List.getElem?_eq_getElem h1⟩
      obtain ⟨ga, ca, rfl⟩ : ∃ ga ca, va1 = .slice (some ⟨ga, 0, none⟩) mx.asked.length ca := by
        rcases r3.form with ⟨_, e0⟩ | ⟨g3, c3, e3⟩
        · rw [e0] at h1; simp at h1
        · exact ⟨g3, c3, e3⟩
      have cV : ∀ q, (grow wr q).cell? ⟨ga, k * 12 + 1, none⟩ = some (.int .u32 x.va) := fun q => ((r3.below (grow_below wr q)).cell askC_len k 1 x hx (by omega)).trans rfl
      have c2q := fun q => (hb.below (grow_below wr q) hb.lt).cell 2
      simp only [List.getElem?_cons_zero, List.getElem?_cons_succ] at c2q
      clear hb r3 l3
      go_upto_region 30 with fail
      (refine wp_region_grow (by kernel_rfl) (by kernel_rfl) ?_; (repeat (go_big_quiet_step (fail))); refine wpQuiet_nil ?_; intro _ hw'; obtain ⟨ew, hw''⟩ := hw'; subst hw'')
      have T' := T.keep (grow_below wr ew) (fun _ => False) (fun j e => e.elim)
      clear cV c2q c2 T hA hB2
      generalize grow wr ew = wz at T' ⊢
      obtain ⟨O1, O2, hA, hB2, _⟩ := T'.ex
      have L1 := Lib.hid (fun at_ => (by have z := LineWord_is gl mx O1 at_ wz hA; rw [aW] at z; exact z : Calls Try.prog 17 #[.pointer (some ⟨gl, 0, none⟩), .int .u32 at_] wz fun e w' => e = .returned (.int .u32 (wordI my.puts at_)) ∧ Below wz.heap.size wz w'))
      have L2 := Lib.hid (fun at_ wq (b : Below wz.heap.size wz wq) => LineWord_is g2 my O2 at_ wq (hB2.keep (GrownS.ofBelow (S := fun _ => False) b) (fun _ _ q => q)))
      clear hA hB2
      go_wp2_with (go_at_call 17; first | ((with_reducible refine (L1.out _).mono ?_); rintro e w3 ⟨rfl, b3⟩) | ((with_reducible refine (L2.out _ _ b3).mono ?_); rintro e w4 ⟨rfl, b4⟩))
      go_roundw
      case rel => exact ⟨k + 1, by go_num, by omega, T'.keep (bthen b3 b4) (fun _ => False) (fun j e => e.elim)⟩
      case measure => simp [intOf]; omega
    · have c2 : wr.cell? ⟨gl, 2, none⟩ = some va1 := c2
      have TB := T.bel
      have hl : k = mx.asked.length := by omega
      rcases r3.form with ⟨rfl, e0⟩ | ⟨g3, c3, rfl⟩
      · rw [e0] at hl
        clear hb r3 l3 hA hB2 T
        subst hl
        go_wp2_with fail
        go_ret
        exact ⟨rfl, TB⟩
      · clear hb r3 l3 hA hB2 T hk
        subst hl
        go_wp2_with fail
        go_ret
        exact ⟨rfl, TB⟩
end Go.Proofs.Ytpfhplhamnohjaa
