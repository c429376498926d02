/- Layer 20: the walk of the law CpuPassed. Layer 20: the walk of the law CpuPassed. -/
import Derived.Test.YtpfhplhamnohjaaG17
namespace Go.Proofs.Ytpfhplhamnohjaa
open Go.RowKit

set_option linter.unusedSimpArgs false
/-- a word under a condition that does not hold -/
theorem step_passed (m : LineM) (s : Sta) (word : Int) (h3 : bits .and .u32 (s 28) 3 = 0) (hs : OkS s) (hw : 0 ≤ word ∧ word < 4294967296) (room : Nat) (hd : (decodeI word).2 = true) (hp : passedB (decodeI word).1.cond (flagsI (s 29)) = false) (hm : m = ⟨[(s 28, word)], [], [], 0, room⟩) :
    (stepO lineF m s false).2.1 = set s 28 ((s 28 + 4) % 4294967296) ∧ (stepO lineF m s false).2.2 = ⟨0, s 28, word, 0, 0, 0, 0, false⟩ ∧ (stepO lineF m s false).1.asked.length = 1 := by
  have u := hs 28 (by omega)
  have e4 : s 28 % 4 = 0 := by
    have a := and32 2 (by decide) (s 28) u.1 (by simpa using u.2)
    have a2 : bits .and .u32 (s 28) 3 = s 28 % 4 := by simpa using a
    rw [← a2]; exact h3
  subst hm
  have ac : accLine ⟨[(s 28, word)], [], [], 0, room⟩ 1 (s 28) 4 0 (!userB s) = (⟨[(s 28, word)], [], [⟨1, s 28, 4, 0, !userB s, 0, 0, 0, 0, 0, 0, false⟩], 0, room - 1⟩, ⟨word, 0, 0, 0⟩) := by
    have hf : faultI [] 1 (s 28) 4 = ([], ⟨0, 0, 0, 0⟩) := by simp [faultI, oddB, e4, holesI]
    unfold accLine
    rw [hf]
    simp only [Ans.ok, beq_self_eq_true, Bool.and_self, Bool.true_eq_false, if_false, List.nil_append]
    rw [if_neg (by decide)]
    have hl : loadedI (wordI [(s 28, word)] (s 28 - s 28 % 4)) (s 28) 4 = word := by
      have : wordI [(s 28, word)] (s 28 - s 28 % 4) = word := by simp [wordI, hitB]
      rw [this]
      unfold loadedI
      rw [e4]
      simp only [pw8, lmask, if_true, Int.ediv_one]
      have := and32 32 (by decide) word hw.1 (by simpa using hw.2)
      simpa [Int.emod_eq_of_lt hw.1 hw.2] using this
    rw [hl]
  have st : stepO lineF ⟨[(s 28, word)], [], [], 0, room⟩ s false = (⟨[(s 28, word)], [], [⟨1, s 28, 4, 0, !userB s, 0, 0, 0, 0, 0, 0, false⟩], 0, room - 1⟩, set s 28 ((s 28 + 4) % 4294967296), ⟨0, s 28, word, 0, 0, 0, 0, false⟩) := by
    unfold stepO
    rw [if_neg (by simp)]
    dsimp only [lineF]
    rw [ac]
    dsimp only
    rw [if_neg (by simp [Ans.ok])]
    unfold tookO
    rw [hd, if_neg (by simp), hp, if_pos rfl]
  rw [st]
  exact ⟨rfl, rfl, rfl⟩
end Go.Proofs.Ytpfhplhamnohjaa
namespace Go.Proofs.Ytpfhplhamnohjaa
open Go.RowKit

set_option linter.unusedSimpArgs false
theorem made_pc (s : Sta) : bits .and .u32 (madeS s 28) 3 = 0 := by
  unfold madeS
  split
  · rename_i h
    unfold isL at h
    simp only [Bool.and_eq_true, beq_iff_eq] at h
    exact h.1.1.1.1.1.1.1.2
  · decide
set_option maxHeartbeats 12800000 in
set_option maxRecDepth 100000 in
theorem passed_walk (s : Sta) (hs : OkS s) (word : Int) (hw : 0 ≤ word ∧ word < 4294967296) (w : World) :
    Calls Try.prog 5 #[.agg (staCells s).toArray, .int .u32 word] w fun e w' => e = .returned (.bool true) ∧ Below w.heap.size w w' := by
  have hX : Blok (w.alloc (.cells (staCells s).toArray 26)) w.heap.size 26 (staCells s) := Blok.new w _ (staCells s)
  have hB : Below w.heap.size w (w.alloc (.cells (staCells s).toArray 26)) := (Below.refl _ _).alloc (Nat.le_refl _) _
  have MD := Lib.hid (fun w => made_is s hs w)
  have LV := Lib.hid (fun w => live_is w)
  have DI := Lib.hid (fun w => Decode_is word hw.1 hw.2 w)
  have SP := Lib.hid (fun m room hd hp hm => step_passed m (madeS s) word (made_pc s) (okS_made hs) hw room hd hp hm)
  have ok0 := okS_made hs
  generalize madeS s = s0 at MD SP ok0
  generalize decodeI word = dr at DI SP
  obtain ⟨i, ok⟩ := dr
  dsimp only at DI SP
  go_enter Try.func5, Try.ntmps5
  go_upto_region 1 with fail
  generalize w.alloc (.cells (staCells s).toArray 26) = w1 at hX hB ⊢
  go_upto_region 4 with (first | (go_at_call 10; (with_reducible refine (LV.out _).mono ?_); rintro e w3 ⟨rfl, b3⟩) | (go_at_call 9; (with_reducible refine (MD.out _).mono ?_); rintro e w2 ⟨gc, rfl, hC, b2, l2⟩) | (refine wpList_load_mid rfl 26 (.tmp 2) rfl w.heap.size 0 rfl (staCells s) _ hX.range Try.underlying26 rfl (by rw [sta_size, staCells_len]) ?_))
  have hC3 := hC.below b3 hC.lt
  have hX3 := (hX.below b2 hX.lt).below b3 (Nat.lt_of_lt_of_le hX.lt b2.size)
  have B3 := bthen (bthen hB b2) b3
  have gl := hX.lt
  have lg : w.heap.size < gc := by omega
  clear hX hB hC b2 b3 l2
  have SS := Lib.hid (State_is s0 false gc 85 w3 hC3)
  go_upto_region 5 with (first | (refine wpList_store_sta rfl (.tmp 2) (.tmp 20) rfl w.heap.size s0 s rfl rfl hX4 ?_; intro w5 B5 g5) | (go_at_call 11; (with_reducible refine (SS.out).mono ?_); rintro e w4 ⟨rfl, b4⟩; have hX4 := hX3.below b4 hX3.lt))
  have hC5 := (hC3.below b4 hC3.lt).grown g5 (fun e => by have := Option.some.inj e; omega)
  have BB5 : Below w.heap.size w w5 := bgrow (bthen B3 b4) g5 (Nat.le_refl _)
  clear hC3 hX3 hX4 B3 b4 g5 SS gl
  go_upto_region 6 with (first | (refine wpList_store_ins rfl (.tmp 6) (.tmp 24) rfl w6.heap.size i zIns rfl rfl hN ?_; intro w7 B7 g7) | (go_at_call 20; (with_reducible refine (DI.out _).mono ?_); rintro e w6 ⟨rfl, b6⟩; have hN := Blok.new w6 61 (insCells zIns)))
  have b7 : Below w5.heap.size w5 w7 := bgrow (b6.alloc b6.size (.cells zInsA 61)) g7 b6.size
  have hC7 := hC5.below b7 hC5.lt
  have hX7 := B5.below b7 B5.lt
  have BB7 := bthen BB5 b7
  clear hC5 B5 BB5 b6 g7 hN b7
  generalize w6.heap.size = ib at B7 ⊢
  have g29 : ∀ q, (grow w7 q).cell? ⟨w.heap.size, 29, none⟩ = some (.int .u32 (s0 29)) := fun q => sta_cell (hX7.below (grow_below w7 q) hX7.lt) 29 (by omega)
  have gi0 : ∀ q, (grow w7 q).cell? ⟨ib, 0, none⟩ = some (.int .i64 i.cond) := fun q => (B7.below (grow_below w7 q) B7.lt).cell 0
  have FL := Lib.hid (fun w => Flags_is (s0 29) (ok0 29 (by omega)).1 (ok0 29 (by omega)).2 w)
  have PS := Lib.hid (fun n z c v w => Passed_is i.cond n z c v w)
  have hP : flagsI (s0 29) = ⟨bt (s0 29) 31, bt (s0 29) 30, bt (s0 29) 29, bt (s0 29) 28⟩ := rfl
  rw [hP] at SP
  clear hP
  cases ok
  · clear SP
    (refine wp_region_grow (by kernel_rfl) (by kernel_rfl) ?_; (repeat (go_big_quiet_step (fail))); refine wpQuiet_nil ?_; intro _ hw'; obtain ⟨ew, hw''⟩ := hw'; subst hw'')
    go_wp2_with fail
    go_ret
    exact ⟨rfl, bthen BB7 (grow_below w7 ew)⟩
  · (refine wp_region_grow (by kernel_rfl) (by kernel_rfl) ?_; (repeat (go_big_quiet_step ((first | (go_at_call 21; exact calls_grow (PS.out _ _ _ _ _)) | (go_at_call 22; exact calls_grow (FL.out _)))))); refine wpQuiet_nil ?_; intro _ hw'; obtain ⟨ew, hw''⟩ := hw'; subst hw'')
    generalize passedB i.cond ⟨bt (s0 29) 31, bt (s0 29) 30, bt (s0 29) 29, bt (s0 29) 28⟩ = pass at SP ⊢
    have hC8 := hC7.below (grow_below w7 ew) hC7.lt
    have hX8 := hX7.below (grow_below w7 ew) hX7.lt
    have BB8 := bthen BB7 (grow_below w7 ew)
    clear g29 gi0 hC7 hX7 BB7 B7 FL PS
    generalize grow w7 ew = w8 at hC8 hX8 BB8 ⊢
    cases pass
    · have SQ := Lib.hid (fun m room hm => SP.out m room rfl rfl hm)
      clear SP
      have c28 : w8.cell? ⟨w.heap.size, 28, none⟩ = some (.int .u32 (s0 28)) := sta_cell hX8 28 (by omega)
      have hPb : Blok (w8.alloc (.cells #[.int .u32 (s0 28), .int .u32 word] 69)) w8.heap.size 69 (putC (s0 28, word)) := Blok.new w8 _ _
      have b9 : Below w8.heap.size w8 (w8.alloc (.cells #[.int .u32 (s0 28), .int .u32 word] 69)) := (Below.refl _ _).alloc (Nat.le_refl _) _
      have AR : ArgRow putC (w8.alloc (.cells #[.int .u32 (s0 28), .int .u32 word] 69)) (.slice (some ⟨w8.heap.size, 0, none⟩) 1 1) [(s0 28, word)] := .inr ⟨_, 1, rfl, fun j y hy => by rw [add0, hPb.cell]; simpa using hy⟩
      have NL := Lib.hid (NewLine_is [(s0 28, word)] [] (.slice (some ⟨w8.heap.size, 0, none⟩) 1 1) (.slice none 0 0) 100 (fun p hp => by rw [List.mem_singleton.1 hp]; exact ⟨ok0 28 (by omega), hw⟩) (fun h hh => by cases hh) (by simp) (by simp) (by omega) _ AR (.inl ⟨rfl, rfl⟩))
      go_upto_region 9 with (go_at_call 12; (with_reducible refine (NL.out).mono ?_); rintro e wA ⟨gL, OL, rfl, hI, bA, nO⟩)
      have hCA := (hC8.below b9 hC8.lt).below bA (Nat.lt_of_lt_of_le hC8.lt b9.size)
      have hXA := (hX8.below b9 hX8.lt).below bA (Nat.lt_of_lt_of_le hX8.lt b9.size)
      have BBA := bthen (bthen BB8 b9) bA
      have nO1 : ∀ j, OL j → w8.heap.size ≤ j := fun j q => Nat.le_trans b9.size (nO j q)
      have nC : ¬ OL gc := fun q => by have := nO1 _ q; have := hC8.lt; omega
      have nX : ¬ OL w.heap.size := fun q => by have := nO1 _ q; have := hX8.lt; omega
      have gl9 : w8.heap.size ≤ gL := nO1 _ (by obtain ⟨_, _, _, _, _, _, _, hO, _⟩ := hI.ex; exact (hO gL).2 (Or.inl rfl))
      clear hPb b9 AR NL c28 bA nO
      have ST := lineStep gL ⟨[(s0 28, word)], [], [], 0, 100⟩ OL s0 false gc 85 ok0 wA hCA hI nC (by simp)
      obtain ⟨q1, q2, q3⟩ := SQ.out _ 100 rfl
      generalize stepO lineF ⟨[(s0 28, word)], [], [], 0, 100⟩ s0 false = r at ST q1 q2 q3
      obtain ⟨m1, s1, t1⟩ := r
      dsimp only at q1 q2 q3
      subst q1 q2
      have ST2 : Calls Try.prog 13 #[.pointer (some ⟨gc, 0, none⟩), .iface 33 (.pointer (some ⟨gL, 0, none⟩))] wA (fun e w' => e = .returned (.tuple #[.agg #[.int .i64 0, .int .u32 (s0 28), .int .u32 word, .int .u32 0, .int .i64 0, .int .i64 0, .int .i64 0, .bool false], .int .i64 0]) ∧ Blok w' gc 85 (cpuCells (set s0 28 ((s0 28 + 4) % 4294967296)) false) ∧ ∃ O' : Nat → Prop, IsLine gL m1 O' w' ∧ GrownS wA w' (fun j => j = gc ∨ OL j) ∧ ∀ j, O' j → OL j ∨ wA.heap.size ≤ j) := ST
      have SZ := Lib.hid ST2
      clear ST ST2 SQ hI
      go_upto_region 10 with (go_at_call 13; (with_reducible refine (SZ.out).mono ?_); rintro e wB ⟨rfl, hCB, OB, hIB, gB, kB⟩)
      have hT : Blok (wB.alloc (.cells #[.int .i64 0, .int .u32 (s0 28), .int .u32 word, .int .u32 0, .int .i64 0, .int .i64 0, .int .i64 0, .bool false] 38)) wB.heap.size 38 (tkCells ⟨0, s0 28, word, 0, 0, 0, 0, false⟩) := Blok.new wB _ (tkCells ⟨0, s0 28, word, 0, 0, 0, 0, false⟩)
      have bT : Below wB.heap.size wB (wB.alloc (.cells #[.int .i64 0, .int .u32 (s0 28), .int .u32 word, .int .u32 0, .int .i64 0, .int .i64 0, .int .i64 0, .bool false] 38)) := (Below.refl _ _).alloc (Nat.le_refl _) _
      have nXB : ¬ (w.heap.size = gc ∨ OL w.heap.size) := fun q => q.elim (fun e => by omega) nX
      have hXB := hXA.gs gB nXB
      have hXC := hXB.below bT hXB.lt
      have hCC := hCB.below bT hCB.lt
      have hIC := hIB.keep (GrownS.ofBelow (S := fun _ => False) bT) (fun _ _ q => q)
      have BBC : Below w.heap.size w (wB.alloc (.cells #[.int .i64 0, .int .u32 (s0 28), .int .u32 word, .int .u32 0, .int .i64 0, .int .i64 0, .int .i64 0, .bool false] 38)) := by
        have z := BBA.size
        have z8 := BB8.size
        exact (BBA.trans (gB.bel z (fun j o => o.elim (fun e => by omega) (fun o => by have := nO1 _ o; omega)))).trans (bT.mono (Nat.le_trans z gB.size))
      have nXC : ¬ OB w.heap.size := fun q => (kB _ q).elim nX (fun l => by have := hXA.lt; omega)
      have tbx : w.heap.size < wB.heap.size := hXB.lt
      clear SZ hXB hCB hIB gB kB bT nXB hCA hXA BBA hC8 hX8 BB8
      generalize wB.alloc (.cells #[.int .i64 0, .int .u32 (s0 28), .int .u32 word, .int .u32 0, .int .i64 0, .int .i64 0, .int .i64 0, .bool false] 38) = wC at hT hXC hCC hIC BBC ⊢
      generalize wB.heap.size = tb at hT tbx ⊢
      have c28 : wC.cell? ⟨w.heap.size, 28, none⟩ = some (.int .u32 (s0 28)) := sta_cell hXC 28 (by omega)
      have f28 := hXC.frozen 28
      go_upto_region 11 with fail
      have hXD := hXC.setsta 28 ((s0 28 + 4) % 4294967296)
      have hCD := hCC.far (p := ⟨w.heap.size, 28, none⟩) (by simp; omega) (.int .u32 ((s0 28 + 4) % 4294967296))
      have hTD := hT.far (p := ⟨w.heap.size, 28, none⟩) (by simp; omega) (.int .u32 ((s0 28 + 4) % 4294967296))
      have gD := grown_one wC w.heap.size 28 (.int .u32 ((s0 28 + 4) % 4294967296))
      have hID := hIC.keep (GrownS.ofOne (S := fun j => j = w.heap.size) gD rfl) (fun j q e => nXC (e ▸ q))
      have BBD := bgrow BBC gD (Nat.le_refl _)
      clear c28 f28 hXC hCC hT hIC BBC gD
      generalize wC.setCell ⟨w.heap.size, 28, none⟩ (.int .u32 ((s0 28 + 4) % 4294967296)) = wD at hXD hCD hTD hID BBD ⊢
      obtain ⟨vp, vh, va, hL, _, _, r3, _⟩ := hID.ex
      obtain ⟨ga, ca, hva⟩ : ∃ ga ca, va = .slice (some ⟨ga, 0, none⟩) 1 ca := by
        rcases r3.form with ⟨_, e0⟩ | ⟨g3, c3, e3⟩
        · rw [e0] at q3; simp at q3
        · rw [q3] at e3; exact ⟨g3, c3, e3⟩
      subst hva
      have hpc : ((s0 28 + 4) % 4294967296 - 4) % 4294967296 = s0 28 := by have := ok0 28 (by omega); omega
      have c28 : ∀ q, (grow wD q).cell? ⟨w.heap.size, 28, none⟩ = some (.int .u32 ((s0 28 + 4) % 4294967296)) := fun q => (sta_cell (hXD.below (grow_below wD q) hXD.lt) 28 (by omega)).trans (by simp [set])
      have cL : ∀ q, (grow wD q).cell? ⟨gL, 2, none⟩ = some (.slice (some ⟨ga, 0, none⟩) 1 ca) := fun q => (hL.below (grow_below wD q) hL.lt).cell 2
      have t0 : ∀ q, (grow wD q).cell? ⟨tb, 0, none⟩ = some (.int .i64 0) := fun q => (hTD.below (grow_below wD q) hTD.lt).cell 0
      have t1 : ∀ q, (grow wD q).cell? ⟨tb, 1, none⟩ = some (.int .u32 (s0 28)) := fun q => (hTD.below (grow_below wD q) hTD.lt).cell 1
      have t2 : ∀ q, (grow wD q).cell? ⟨tb, 2, none⟩ = some (.int .u32 word) := fun q => (hTD.below (grow_below wD q) hTD.lt).cell 2
      have t3 : ∀ q, (grow wD q).cell? ⟨tb, 3, none⟩ = some (.int .u32 0) := fun q => (hTD.below (grow_below wD q) hTD.lt).cell 3
      have t4 : ∀ q, (grow wD q).cell? ⟨tb, 4, none⟩ = some (.int .i64 0) := fun q => (hTD.below (grow_below wD q) hTD.lt).cell 4
      have t5 : ∀ q, (grow wD q).cell? ⟨tb, 5, none⟩ = some (.int .i64 0) := fun q => (hTD.below (grow_below wD q) hTD.lt).cell 5
      have t6 : ∀ q, (grow wD q).cell? ⟨tb, 6, none⟩ = some (.int .i64 0) := fun q => (hTD.below (grow_below wD q) hTD.lt).cell 6
      have t7 : ∀ q, (grow wD q).cell? ⟨tb, 7, none⟩ = some (.bool false) := fun q => (hTD.below (grow_below wD q) hTD.lt).cell 7
      generalize set s0 28 ((s0 28 + 4) % 4294967296) = s1 at hXD hCD
      have hS : ∀ w', (∃ m, w' = grow wD m) → w'.rangeAt w.heap.size 0 (staCells s1) := fun w' ⟨m, e⟩ => by rw [e]; exact (hXD.below (grow_below wD m) hXD.lt).range
      have ST := Lib.hid (fun m => State_is s1 false gc 85 (grow wD m) (hCD.below (grow_below wD m) hCD.lt))
      have eq := eql_sta s1
      refine wp_region_grow (by kernel_rfl) (by kernel_rfl) ?_
      repeat (first | ((refine wpQuiet_load_mid (by rfl) 26 (.tmp 2) rfl w.heap.size 0 rfl (staCells s1) _ hS Try.underlying26 rfl (by rw [sta_size, staCells_len]) ?_); (try simp only [Act.put, List.setIfInBounds_toArray, List.set_cons_zero, List.set_cons_succ])) | go_big_quiet_step (first | (go_at_call 11; exact calls_grow (ST.out _)) | (go_at_call 14; exact calls_grow_same (no_is _ _))))
      refine wpQuiet_nil ?_
      intro _ hw'
      obtain ⟨ew2, hw''⟩ := hw'
      subst hw''
      go_wp2_with fail
      go_ret
      exact ⟨rfl, bthen BBD (grow_below wD ew2)⟩
    · clear SP
      go_wp2_with fail
      go_ret
      exact ⟨rfl, BB8⟩
end Go.Proofs.Ytpfhplhamnohjaa
