/- Layer 20: Step. -/
import Derived.Test.YtpfhplhamnohjaaG14
import Derived.Test.YtpfhplhamnohjaaG13
import Derived.Test.YtpfhplhamnohjaaUKsm
import Derived.Test.YtpfhplhamnohjaaG03
import Derived.Test.YtpfhplhamnohjaaUChm
namespace Go.Proofs.Ytpfhplhamnohjaa
set_option maxHeartbeats 25600000
set_option maxRecDepth 100000
open Go.RowKit

set_option linter.unusedSimpArgs false
theorem ret_ct {P : Program} {fn : Func} {R : Ending → World → Prop} {a : Act} {w : World} (u k : Nat) (v : Value) (ty : TypeId) (b : Nat) (cs : List Value) (d : TypeDesc) (hr : fn.results = #[.cell k ty, .tmp u]) (hv : a.tmps.getD u undef = v) (ht : a.tmps.getD k undef = .pointer (some ⟨b, 0, none⟩))
    (hc : w.rangeAt b 0 cs) (hu : P.underlying ty = some d) (hd : d.isRow = true) (hi : (P.info? ty).map (·.size) = some cs.length) (hdef : a.defers = []) (hR : R (.returned (.tuple #[.agg cs.toArray, v])) w) : bodyPost P fn R .ret a w := by
  refine bodyPost_ret (v := .tuple #[.agg cs.toArray, v]) ?_ hdef hR
  have ht' : a.tmps[k]?.getD undef = .pointer (some ⟨b, 0, none⟩) := by simpa using ht
  have hv' : a.tmps[u]?.getD undef = v := by simpa using hv
  simp [results, hr, ht', hv', asAddr, run_loadVar_mid w b 0 ty cs d hc hu hd hi]
theorem took_size : (Try.prog.info? 38).map (·.size) = some 8 := by kernel_rfl
theorem tkCells_one (x : Tk) : (tkCells x).toArray.toList.all (·.oneCell') = true := rfl
theorem took_store {w : World} {g : Nat} {t : TypeId} {x y : Tk} (h : Blok w g t ((tkCells x).take 0 ++ (tkCells y).toArray.toList ++ (tkCells x).drop (0 + (tkCells y).toArray.size))) : Blok w g t (tkCells y) := h
theorem GrownS.trans2 {w w' w1 : World} {S S' : Nat → Prop} (h : GrownS w w' S') (k : GrownS w' w1 S) (hs : ∀ j, S j → S' j) : GrownS w w1 S' := h.trans (grownS_mono k hs)
def zTk : Tk := ⟨0, 0, 0, 0, 0, 0, 0, false⟩
/-- what an instruction's word does, the access being over -/
def tookO {M : Type} (F : BusM M) (m : M) (s : Sta) (on : Bool) (i : Ins) (ok : Bool) (t : Tk) : M × Sta × Tk :=
  if ok = false then (m, entS s 27 ((s 28 + 4) % 4294967296) 4, { t with kind := 1 })
  else if passedB i.cond (flagsI (s 29)) = false then (m, set s 28 ((s 28 + 4) % 4294967296), t)
  else if i.op = 45 then (m, entS s 19 ((s 28 + 4) % 4294967296) 8, { t with kind := 2 })
  else if i.op = 46 then (m, entS s 23 ((s 28 + 4) % 4294967296) 12, { t with kind := 3, va := s 28 })
  else if i.op = 52 ∧ on = false then (m, s, { t with kind := 6 })
  else
    let r := execO F m s (set s 28 ((s 28 + 4) % 4294967296)) (s 28) i
    (r.1, doesS s (s 28) r.2, doesT t r.2)
def stepO {M : Type} (F : BusM M) (m : M) (s : Sta) (on : Bool) : M × Sta × Tk :=
  if on = true ∧ bits .and .u32 (s 29) 128 = 0 then (m, entS s 18 ((s 28 + 4) % 4294967296) 24, ⟨5, s 28, 0, 0, 0, 0, 0, false⟩)
  else
    let a := F.acc m 1 (s 28) 4 0 (!userB s)
    if a.2.ok = false then (a.1, entS s 23 ((s 28 + 4) % 4294967296) 12, ⟨3, s 28, 0, s 28, a.2.fk, a.2.fl, a.2.fd, false⟩)
    else tookO F a.1 s on (decodeI a.2.val).1 (decodeI a.2.val).2 ⟨0, s 28, a.2.val, 0, 0, 0, 0, false⟩
def StepPost {M : Type} (I : M → (Nat → Prop) → World → Prop) (O : Nat → Prop) (W : World) (gc : Nat) (tc : TypeId) (on : Bool) (r : M × Sta × Tk) (e : Ending) (w' : World) : Prop :=
  e = .returned (.tuple #[.agg (tkCells r.2.2).toArray, .int .i64 0]) ∧ Blok w' gc tc (cpuCells r.2.1 on) ∧ ∃ O' : Nat → Prop, I r.1 O' w' ∧ GrownS W w' (fun j => j = gc ∨ O j) ∧ ∀ j, O' j → O j ∨ W.heap.size ≤ j
/-- behind the switch of Step -/
structure SwPost {M : Type} (I : M → (Nat → Prop) → World → Prop) (O : Nat → Prop) (V : World) (gc tk zb : Nat) (tc : TypeId) (on : Bool) (r : M × Sta × Tk) (w : World) : Prop where
  blk : Blok w gc tc (cpuCells r.2.1 on)
  took : Blok w tk 38 (tkCells r.2.2)
  z : Blok w zb 38 (tkCells zTk)
  bus : ∃ O' : Nat → Prop, I r.1 O' w ∧ GrownS V w (fun j => j = gc ∨ j = tk ∨ O j) ∧ ∀ j, O' j → O j ∨ V.heap.size ≤ j
theorem Step_is {T : TypeId} {V : Value} {M : Type} {I : M → (Nat → Prop) → World → Prop} {F : BusM M} {fA fC fR : Nat} (L : BusLaw T V I F fA fC fR) (nA : ∀ w, Sem.run Try.prog (nilAhead 283 T V "Access") w = .ok (some false) w) (m : M) (O : Nat → Prop)
    (s : Sta) (on : Bool) (gc : Nat) (tc : TypeId) (hs : OkS s) (W : World) (hc : Blok W gc tc (cpuCells s on)) (hI : I m O W) (hg : ¬ O gc) (hf : 17 ≤ F.fuel m) :
    Calls Try.prog 13 #[.pointer (some ⟨gc, 0, none⟩), .iface T V] W (StepPost I O W gc tc on (stepO F m s on)) := by
  have hlt := hc.lt
  have c28 := cpu_cell hc 28 (by omega)
  have c29 := cpu_cell hc 29 (by omega)
  have c30 : W.cell? ⟨gc, 30, none⟩ = some (.bool on) := hc.cell 30
  have h28 := hs 28 (by omega)
  have EN := Lib.hid (fun w m b v hm => enter_is s on gc tc m b v hm w)
  obtain ⟨R, hR⟩ : ∃ R, R = stepO F m s on := ⟨_, rfl⟩
  rw [← hR]
  unfold stepO at hR
  have HR := Lib.hid hR
  clear hR
  go_enter Try.func13, Try.ntmps13
  go_upto_region 4 with fail
  have hZ : Blok (W.alloc (.cells #[.int .i64 0, .int .u32 0, .int .u32 0, .int .u32 0, .int .i64 0, .int .i64 0, .int .i64 0, .bool false] 38)) W.heap.size 38 (tkCells zTk) := Blok.new W _ (tkCells zTk)
  have hB : Below W.heap.size W (W.alloc (.cells #[.int .i64 0, .int .u32 0, .int .u32 0, .int .u32 0, .int .i64 0, .int .i64 0, .int .i64 0, .bool false] 38)) := (Below.refl _ _).alloc (Nat.le_refl _) _
  generalize W.alloc (.cells #[.int .i64 0, .int .u32 0, .int .u32 0, .int .u32 0, .int .i64 0, .int .i64 0, .int .i64 0, .bool false] 38) = W2 at hZ hB ⊢
  have hc2 := hc.below hB hlt
  have d29 := cpu_cell hc2 29 (by omega)
  have d30 : W2.cell? ⟨gc, 30, none⟩ = some (.bool on) := hc2.cell 30
  have hI2 := L.keep m O W W2 (fun _ => False) hI (GrownS.ofBelow hB) (fun _ _ q => q)
  have hz : ¬ O W.heap.size := fun q => Nat.lt_irrefl _ (L.old _ _ _ _ hI q)
  clear c28 c29 c30
  go_cut [31] (fun s31 wx => s31 = .bool (on && (bits .and .u32 (s 29) 128 == 0)) ∧ wx = W2)
  case first =>
    cases on
    · go_wp2_with fail
      go_meet
      exact ⟨rfl, rfl⟩
    · go_wp2_with fail
      go_meet
      exact ⟨rfl, rfl⟩
  case rest =>
    obtain ⟨rfl, rfl⟩ := hcut
    obtain ⟨irq, hq⟩ : ∃ irq : Bool, irq = (on && (bits .and .u32 (s 29) 128 == 0)) := ⟨_, rfl⟩
    rw [← hq]
    cases irq
    · have e1 : R = (if (F.acc m 1 (s 28) 4 0 (!userB s)).2.ok = false then ((F.acc m 1 (s 28) 4 0 (!userB s)).1, entS s 23 ((s 28 + 4) % 4294967296) 12, ⟨3, s 28, 0, s 28, (F.acc m 1 (s 28) 4 0 (!userB s)).2.fk, (F.acc m 1 (s 28) 4 0 (!userB s)).2.fl, (F.acc m 1 (s 28) 4 0 (!userB s)).2.fd, false⟩)
          else tookO F (F.acc m 1 (s 28) 4 0 (!userB s)).1 s on (decodeI (F.acc m 1 (s 28) 4 0 (!userB s)).2.val).1 (decodeI (F.acc m 1 (s 28) 4 0 (!userB s)).2.val).2 ⟨0, s 28, (F.acc m 1 (s 28) 4 0 (!userB s)).2.val, 0, 0, 0, 0, false⟩) := by rw [HR.out, if_neg (by simpa using hq.symm)]
      have xv := L.val m 1 (s 28) 4 0 (!userB s)
      have AC := Lib.hid (fun w (hi : I m O w) => L.acc m O w 1 (s 28) 4 0 (!userB s) h28 (by omega) (Or.inl rfl) (Or.inr (Or.inr rfl)) (by omega) hi)
      have hf1 := L.spent m 1 (s 28) 4 0 (!userB s)
      generalize (F.acc m 1 (s 28) 4 0 (!userB s)).1 = m1 at AC e1 hf1
      generalize (F.acc m 1 (s 28) 4 0 (!userB s)).2 = x at AC e1 xv
      have hx : (ansCells x).toArray = #[.int .u32 x.val, .int .i64 x.fk, .int .i64 x.fl, .int .i64 x.fd] := rfl
      rw [hx] at AC
      clear hx HR hq
      have HE := Lib.hid e1
      clear e1
      have m2 : bits .and .u32 (s 29) 31 = s 29 % 32 := and32 5 (by decide) _ (hs 29 (by omega)).1 (by simpa using (hs 29 (by omega)).2)
      have mA := L.mA
      have cA := L.cA
      have KP := Lib.hid L.keep
      have OL := Lib.hid L.old
      go_upto_region 7 with fail
      have hI1 : ∀ w', Below wc.heap.size wc w' → I m O w' := fun w' k => KP.out m O wc w' (fun _ => False) hI2 (GrownS.ofBelow k) (fun _ _ q => q)
      have k29 : ∀ w', GrownS wc w' O → w'.cell? ⟨gc, 29, none⟩ = some (.int .u32 (s 29)) := fun w' k => cpu_cell (hc2.gs k hg) 29 (by omega)
      go_cut [7] (fun s7 wx => ∃ (y : Nat) (O' : Nat → Prop), s7 = .pointer (some ⟨y, 0, none⟩) ∧ Blok wx y 90 (ansCells x) ∧ I m1 O' wx ∧ GrownS wc wx O ∧ (∀ j, O' j → O j ∨ wc.heap.size ≤ j) ∧ ¬ O' y ∧ wc.heap.size ≤ y)
      case first =>
        refine wp_region_held_drew (S := fun w' => GrownS wc w' O) (by kernel_rfl) (GrownS.drew _ _) (fun hHeld => ?_)
        (refine take_at (i := 0) (d := some 38) (v := ?_) rfl (by rfl) (by kernel_rfl) (by kernel_rfl) (by kernel_rfl) (fun _ _ _ h => h) (Or.inl ⟨by rfl, ?_⟩) (by with_reducible assumption) ?_; rotate_left 1; (· ((intro w hSw); (try dsimp only at hSw); first | (go_simp; done) | (go_simp; with_reducible rfl))); (try simp only [Act.put, List.setIfInBounds_toArray, List.set_cons_zero, List.set_cons_succ]))
        (refine take_at (i := 1) (d := some 39) (v := ?_) rfl (by rfl) (by kernel_rfl) (by kernel_rfl) (by kernel_rfl) (fun _ _ _ h => h) (Or.inl ⟨by rfl, ?_⟩) (by with_reducible assumption) ?_; rotate_left 1; (· ((intro w hSw); (try dsimp only at hSw); first | (go_simp; done) | (go_simp; with_reducible rfl))); (try simp only [Act.put, List.setIfInBounds_toArray, List.set_cons_zero, List.set_cons_succ]))
        (refine take_at (i := 2) (d := some 40) (v := ?_) rfl (by rfl) (by kernel_rfl) (by kernel_rfl) (by kernel_rfl) (fun _ _ _ h => h) (Or.inl ⟨by rfl, ?_⟩) (by with_reducible assumption) ?_; rotate_left 1; (· ((intro w hSw); (try dsimp only at hSw); first | (go_simp; done) | (go_simp; with_reducible rfl))); (try simp only [Act.put, List.setIfInBounds_toArray, List.set_cons_zero, List.set_cons_succ]))
        (refine take_at (i := 3) (d := some 41) (v := ?_) rfl (by rfl) (by kernel_rfl) (by kernel_rfl) (by kernel_rfl) (fun _ _ _ h => h) (Or.inl ⟨by rfl, ?_⟩) (by with_reducible assumption) ?_; rotate_left 1; (· ((intro w hSw); (try dsimp only at hSw); first | (go_simp; done) | (go_simp; with_reducible rfl))); (try simp only [Act.put, List.setIfInBounds_toArray, List.set_cons_zero, List.set_cons_succ]))
        (refine take_at (i := 4) (d := some 42) (v := ?_) rfl (by rfl) (by kernel_rfl) (by kernel_rfl) (by kernel_rfl) (fun _ _ _ h => h) (Or.inl ⟨by rfl, ?_⟩) (by with_reducible assumption) ?_; rotate_left 1; (· ((intro w hSw); (try dsimp only at hSw); first | (go_simp; done) | (go_simp; with_reducible rfl))); (try simp only [Act.put, List.setIfInBounds_toArray, List.set_cons_zero, List.set_cons_succ]))
        (refine take_at (i := 5) (d := some 43) (v := ?_) rfl (by rfl) (by kernel_rfl) (by kernel_rfl) (by kernel_rfl) (fun _ _ _ h => h) (Or.inl ⟨by rfl, ?_⟩) (by with_reducible assumption) ?_; rotate_left 1; (· ((intro w hSw); (try dsimp only at hSw); first | (go_simp; done) | (go_simp; with_reducible rfl))); (try simp only [Act.put, List.setIfInBounds_toArray, List.set_cons_zero, List.set_cons_succ]))
        (refine take_at (i := 6) (d := some 44) (v := ?_) rfl (by rfl) (by kernel_rfl) (by kernel_rfl) (by kernel_rfl) (fun _ _ _ h => h) (Or.inl ⟨by rfl, ?_⟩) (by with_reducible assumption) ?_; rotate_left 1; (· ((intro w hSw); (try dsimp only at hSw); first | (go_simp; done) | (go_simp; with_reducible rfl))); (try simp only [Act.put, List.setIfInBounds_toArray, List.set_cons_zero, List.set_cons_succ]))
        (refine take_at (i := 7) (d := some 45) (v := ?_) rfl (by rfl) (by kernel_rfl) (by kernel_rfl) (by kernel_rfl) (fun _ _ _ h => h) (Or.inl ⟨by rfl, ?_⟩) (by with_reducible assumption) ?_; rotate_left 1; (· ((intro w hSw); (try dsimp only at hSw); first | (go_simp; done) | (go_simp; with_reducible rfl))); (try simp only [Act.put, List.setIfInBounds_toArray, List.set_cons_zero, List.set_cons_succ]))
        (refine take_at (i := 8) (d := some 46) (v := ?_) rfl (by rfl) (by kernel_rfl) (by kernel_rfl) (by kernel_rfl) (fun _ _ _ h => h) (Or.inl ⟨by rfl, ?_⟩) (by with_reducible assumption) ?_; rotate_left 1; (· ((intro w hSw); (try dsimp only at hSw); first | (go_simp; done) | (go_simp; with_reducible rfl))); (try simp only [Act.put, List.setIfInBounds_toArray, List.set_cons_zero, List.set_cons_succ]))
        (refine take_at (i := 9) (d := some 47) (v := ?_) rfl (by rfl) (by kernel_rfl) (by kernel_rfl) (by kernel_rfl) (fun _ _ _ h => h) (Or.inl ⟨by rfl, ?_⟩) (by with_reducible assumption) ?_; rotate_left 1; (· ((intro w hSw); (try dsimp only at hSw); first | (go_simp; done) | (go_simp; with_reducible rfl))); (try simp only [Act.put, List.setIfInBounds_toArray, List.set_cons_zero, List.set_cons_succ]))
        refine take_at (i := 10) (d := some 48) (v := .func (.method "Access") #[.iface T V] #[]) rfl (by rfl) (by kernel_rfl) (by kernel_rfl) (by kernel_rfl) (fun _ _ _ h => h) (Or.inl ⟨by rfl, fun w _ => by kernel_rfl⟩) (by with_reducible assumption) ?_
        (try simp only [Act.put, List.setIfInBounds_toArray, List.set_cons_zero, List.set_cons_succ])
        (refine take_at (i := 11) (d := some 49) (v := ?_) rfl (by rfl) (by kernel_rfl) (by kernel_rfl) (by kernel_rfl) (fun _ _ _ h => h) (Or.inl ⟨by rfl, ?_⟩) (by with_reducible assumption) ?_; rotate_left 1; (· ((intro w hSw); (try dsimp only at hSw); first | (go_simp; done) | (go_simp; with_reducible rfl))); (try simp only [Act.put, List.setIfInBounds_toArray, List.set_cons_zero, List.set_cons_succ]))
        (refine take_at (i := 12) (d := some 50) (v := ?_) rfl (by rfl) (by kernel_rfl) (by kernel_rfl) (by kernel_rfl) (fun _ _ _ h => h) (Or.inl ⟨by rfl, ?_⟩) (by with_reducible assumption) ?_; rotate_left 1; (· ((intro w hSw); (try dsimp only at hSw); first | (go_simp; done) | (go_simp; with_reducible rfl))); (try simp only [Act.put, List.setIfInBounds_toArray, List.set_cons_zero, List.set_cons_succ]))
        refine wpAnyH_ready (rs := [13, 14]) (by kernel_rfl) (by simp) ?_
        refine AllReadyH.cons rfl (fun K hK => ?_) (AllReadyH.cons rfl (fun K hK => ?_) AllReadyH.nil)
        · go_simp
          refine (AC.out _ (hI1 _ (bdrew (Below.refl _ _)))).mono ?_
          rintro e w2 ⟨rfl, O', hI4, g2, k2⟩
          have g2' : GrownS wc w2 O := (GrownS.drew wc O).trans g2
          have k2' : ∀ j, O' j → O j ∨ wc.heap.size ≤ j := k2
          refine hK.out _ _ g2' (fun hHeld => ?_)
          clear hK K
          (try simp only [Act.put, List.setIfInBounds_toArray, List.set_cons_zero, List.set_cons_succ])
          refine wpAnyH_ready (rs := [14]) (by kernel_rfl) (by simp) ?_
          refine AllReadyH.cons rfl (fun K hK => ?_) AllReadyH.nil
          go_simp
          refine hK.out _ _ (g2'.alloc _) (fun hHeld => ?_)
          clear hK K
          (try simp only [Act.put, List.setIfInBounds_toArray, List.set_cons_zero, List.set_cons_succ])
          refine wpAnyH_ready (rs := [15]) (by kernel_rfl) (by simp) ?_
          refine AllReadyH.cons rfl (fun K hK => ?_) AllReadyH.nil
          go_simp
          refine hK.out _ _ (g2'.alloc _) (fun hHeld => ?_)
          clear hK K
          (try simp only [Act.put, List.setIfInBounds_toArray, List.set_cons_zero, List.set_cons_succ])
          refine wpAnyH_done (by kernel_rfl) ?_ _
          go_wp2_with fail
          go_meet
          exact ⟨w2.heap.size, O', rfl, Blok.new w2 _ (ansCells x), KP.out m1 O' w2 _ (fun _ => False) hI4 (GrownS.ofBelow ((Below.refl _ _).alloc (Nat.le_refl _) _)) (fun _ _ q => q), g2'.alloc _, k2', fun q => Nat.lt_irrefl _ (OL.out m1 O' w2 _ hI4 q), g2'.size⟩
        · go_simp
          have hZ1 : Blok (World.drew (wc.alloc (.cells #[.int .u32 0, .int .i64 0, .int .i64 0, .int .i64 0] 90))) wc.heap.size 90 [.int .u32 0, .int .i64 0, .int .i64 0, .int .i64 0] := (Blok.new wc 90 [.int .u32 0, .int .i64 0, .int .i64 0, .int .i64 0]).drewN 1
          have b3 : Below wc.heap.size wc (World.drew (wc.alloc (.cells #[.int .u32 0, .int .i64 0, .int .i64 0, .int .i64 0] 90))) := bdrew ((Below.refl _ _).alloc (Nat.le_refl _) _)
          generalize World.drew (wc.alloc (.cells #[.int .u32 0, .int .i64 0, .int .i64 0, .int .i64 0] 90)) = w3 at hZ1 b3 ⊢
          refine hK.out _ _ (GrownS.ofBelow b3) (fun hHeld => ?_)
          clear hK K
          (try simp only [Act.put, List.setIfInBounds_toArray, List.set_cons_zero, List.set_cons_succ])
          refine wpAnyH_ready (rs := [13]) (by kernel_rfl) (by simp) ?_
          refine AllReadyH.cons rfl (fun K hK => ?_) AllReadyH.nil
          go_simp
          refine (AC.out _ (hI1 _ b3)).mono ?_
          rintro e w2 ⟨rfl, O', hI4, g2, k2⟩
          have hz1 : ¬ O wc.heap.size := fun q => Nat.lt_irrefl _ (OL.out m O wc _ hI2 q)
          have hZ2 := hZ1.gs g2 hz1
          have g2' : GrownS wc w2 O := (GrownS.ofBelow b3).trans g2
          have k2' : ∀ j, O' j → O j ∨ wc.heap.size ≤ j := fun j q => (k2 j q).imp id (fun r => Nat.le_trans b3.size r)
          have hz' : ¬ O' wc.heap.size := fun q => (k2 _ q).elim hz1 (fun r => by have := hZ1.lt; omega)
          have q0 := hZ2.cell 0
          have q1 := hZ2.cell 1
          have q2 := hZ2.cell 2
          have q3 := hZ2.cell 3
          have r0 := hZ2.frozen 0
          have r1 := hZ2.frozen 1
          have r2 := hZ2.frozen 2
          have r3 := hZ2.frozen 3
          simp only [List.getElem?_cons_zero, List.getElem?_cons_succ] at q0 q1 q2 q3
          refine hK.out _ _ g2' (fun hHeld => ?_)
          clear hK K
          (try simp only [Act.put, List.setIfInBounds_toArray, List.set_cons_zero, List.set_cons_succ])
          refine wpAnyH_ready (rs := [15]) (by kernel_rfl) (by simp) ?_
          refine AllReadyH.cons rfl (fun K hK => ?_) AllReadyH.nil
          go_simp
          have hZ4 := (((hZ2.set_ 0 (.int .u32 x.val)).set_ 1 (.int .i64 x.fk)).set_ 2 (.int .i64 x.fl)).set_ 3 (.int .i64 x.fd)
          have g4 := gtrans (gtrans (gtrans (grown_one w2 wc.heap.size 0 (.int .u32 x.val)) (grown_one _ wc.heap.size 1 (.int .i64 x.fk))) (grown_one _ wc.heap.size 2 (.int .i64 x.fl))) (grown_one _ wc.heap.size 3 (.int .i64 x.fd))
          have g5 : GrownS wc _ O := g2'.new g4 (Nat.le_refl _)
          have hI4' := KP.out m1 O' w2 _ (fun j => j = wc.heap.size) hI4 (GrownS.ofOne g4 rfl) (fun j q r => hz' (r ▸ q))
          refine hK.out _ _ g5 (fun hHeld => ?_)
          clear hK K
          (try simp only [Act.put, List.setIfInBounds_toArray, List.set_cons_zero, List.set_cons_succ])
          refine wpAnyH_done (by kernel_rfl) ?_ _
          go_wp2_with fail
          go_meet
          exact ⟨wc.heap.size, O', rfl, hZ4, hI4', g5, k2', hz', Nat.le_refl _⟩
      case rest =>
        obtain ⟨y, O', rfl, hA, hI4, g2, k2, hy2, hyw⟩ := hcut
        have a0 := hA.cell 0
        have a1 := hA.cell 1
        have a2 := hA.cell 2
        have a3 := hA.cell 3
        simp only [ansCells, List.getElem?_cons_zero, List.getElem?_cons_succ] at a0 a1 a2 a3
        have hc4 := hc2.gs g2 hg
        have hZ4 := hZ.gs g2 hz
        have hyg : y ≠ gc := fun e => by have := hc2.lt; omega
        clear k29 mA cA nA
        have nO1 : ¬ O' gc := fun q => (k2 _ q).elim hg (fun l => by have := hc2.lt; omega)
        have nO2 : ¬ O' W.heap.size := fun q => (k2 _ q).elim hz (fun l => by have := hZ.lt; omega)
        have k3 : ∀ j, O' j → O j ∨ W.heap.size ≤ j := fun j q => (k2 j q).imp id (fun l => by have := hB.size; omega)
        obtain ⟨good, hgood⟩ : ∃ good, x.ok = good := ⟨_, rfl⟩
        cases good
        · have e1 : R = (m1, entS s 23 ((s 28 + 4) % 4294967296) 12, ⟨3, s 28, 0, s 28, x.fk, x.fl, x.fd, false⟩) := by rw [HE.out, if_pos hgood]
          have HF := Lib.hid e1
          clear e1 HE
          go_upto_region 8 with fail
          go_cut [55] (fun s55 wx => s55 = .bool true ∧ wx = wc)
          case first =>
            unfold Ans.ok at hgood
            by_cases f0 : x.fk = 0
            · by_cases f1 : x.fl = 0
              · have f2 : ¬ x.fd = 0 := fun f2 => by simp [f0, f1, f2] at hgood
                go_wp2_with fail
                go_meet
                exact ⟨by simp [f2], rfl⟩
              · go_wp2_with fail
                go_meet
                exact ⟨by simp [f1], rfl⟩
            · go_wp2_with fail
              go_meet
              exact ⟨by simp [f0], rfl⟩
          case rest =>
            obtain ⟨rfl, rfl⟩ := hcut
            clear hgood
            go_upto_region 10 with (first | (go_at_call 28; refine (EN.out _ 23 _ _ (by omega) hc4).mono ?_; rintro e w5 ⟨rfl, B5, g5⟩))
            have hA5 := hA.grown g5 (fun e => hyg (Option.some.inj e))
            have hZ5 := hZ4.grown g5 (fun e => by have := Option.some.inj e; omega)
            have y1 : w5.cell? ⟨y, 1, none⟩ = some (.int .i64 x.fk) := hA5.cell 1
            have y2 : w5.cell? ⟨y, 2, none⟩ = some (.int .i64 x.fl) := hA5.cell 2
            have y3 : w5.cell? ⟨y, 3, none⟩ = some (.int .i64 x.fd) := hA5.cell 3
            clear a0 a1 a2 a3 hA
            go_wp2_with (refine wpList_store_blok rfl 38 (.tmp 4) (.tmp 64) rfl W.heap.size 0 (tkCells ⟨3, s 28, 0, s 28, x.fk, x.fl, x.fd, false⟩).toArray rfl rfl hZ5 (by simp [tkCells]) took_size (tkCells_one _) ?_; intro w6 B6 g6 _z6)
            refine ret_ct 5 4 _ 38 W.heap.size (tkCells ⟨3, s 28, 0, s 28, x.fk, x.fl, x.fd, false⟩) _ rfl rfl rfl (took_store B6).range Try.underlying38 rfl took_size rfl ?_
            rw [HF.out]
            have hzn : some gc ≠ some W.heap.size := fun e => by have := Option.some.inj e; omega
            have G2 : GrownS wc w6 (fun j => j = gc ∨ j = W.heap.size) := (GrownS.ofOne g5 (Or.inl rfl)).one g6 (Or.inr rfl)
            have G : GrownS W w6 (fun j => j = gc ∨ O j) := GrownS.new (w' := w5) (((GrownS.ofBelow hB).trans2 g2 (fun _ q => Or.inr q)).one g5 (Or.inl rfl)) g6 (Nat.le_refl _)
            exact ⟨rfl, B5.grown g6 hzn, O', L.keep m1 O' wc w6 _ hI4 G2 (fun j q e => e.elim (fun e => nO1 (e ▸ q)) (fun e => nO2 (e ▸ q))), G, k3⟩
        · have e1 : R = tookO F m1 s on (decodeI x.val).1 (decodeI x.val).2 ⟨0, s 28, x.val, 0, 0, 0, 0, false⟩ := by rw [HE.out, if_neg (by simp [hgood])]
          obtain ⟨f0, f1, f2⟩ : x.fk = 0 ∧ x.fl = 0 ∧ x.fd = 0 := by simpa [Ans.ok] using hgood
          clear HE hgood
          have DI := Lib.hid (fun w => Decode_is x.val xv.1 xv.2 w)
          have GI := decode_good x.val
          have GO := decode_op x.val
          generalize decodeI x.val = dr at e1 DI GI GO
          obtain ⟨i, ok⟩ := dr
          dsimp only at e1 DI GI GO
          have HF := Lib.hid e1
          clear e1
          go_upto_region 8 with fail
          go_cut [55] (fun s55 wx => s55 = .bool false ∧ wx = wc)
          case first =>
            go_wp2_with fail
            go_meet
            exact ⟨by simp [f0, f1, f2], rfl⟩
          case rest =>
            obtain ⟨rfl, rfl⟩ := hcut
            clear f0 f1 f2 hA
            go_upto_region 12 with fail
            have hT : Blok (wc.alloc (.cells #[.int .i64 0, .int .u32 (s 28), .int .u32 x.val, .int .u32 0, .int .i64 0, .int .i64 0, .int .i64 0, .bool false] 38)) wc.heap.size 38 (tkCells ⟨0, s 28, x.val, 0, 0, 0, 0, false⟩) := Blok.new wc _ (tkCells ⟨0, s 28, x.val, 0, 0, 0, 0, false⟩)
            have bT : Below wc.heap.size wc (wc.alloc (.cells #[.int .i64 0, .int .u32 (s 28), .int .u32 x.val, .int .u32 0, .int .i64 0, .int .i64 0, .int .i64 0, .bool false] 38)) := (Below.refl _ _).alloc (Nat.le_refl _) _
            have e0 : (wc.alloc (.cells #[.int .i64 0, .int .u32 (s 28), .int .u32 x.val, .int .u32 0, .int .i64 0, .int .i64 0, .int .i64 0, .bool false] 38)).cell? ⟨y, 0, none⟩ = some (.int .u32 x.val) := (bT.cell (lt_cell a0)).trans a0
            generalize wc.alloc (.cells #[.int .i64 0, .int .u32 (s 28), .int .u32 x.val, .int .u32 0, .int .i64 0, .int .i64 0, .int .i64 0, .bool false] 38) = V5 at hT bT e0 ⊢
            clear a0 a1 a2 a3
            go_upto_block 0 with (first | (refine wpList_store_ins rfl (.tmp 9) (.tmp 73) rfl V6.heap.size i zIns rfl rfl hN ?_; intro V7 B7 g7) | (go_at_call 20; (with_reducible refine (DI.out _).mono ?_); rintro e V6 ⟨rfl, b6⟩; have hN := Blok.new V6 61 (insCells zIns)))
            have bV : Below wc.heap.size wc V7 := bgrow ((bthen bT b6).alloc (bthen bT b6).size (.cells zInsA 61)) g7 (bthen bT b6).size
            have bV5 : Below V5.heap.size V5 V7 := bgrow (b6.alloc b6.size (.cells zInsA 61)) g7 b6.size
            have hc7 := hc4.below bV hc4.lt
            have hZ7 := hZ4.below bV hZ4.lt
            have hT7 := hT.below bV5 hT.lt
            have hI7 := KP.out m1 O' wc V7 (fun _ => False) hI4 (GrownS.ofBelow bV) (fun _ _ q => q)
            have nO3 : ¬ O' wc.heap.size := fun q => Nat.lt_irrefl _ (OL.out m1 O' wc _ hI4 q)
            have G7 : GrownS W V7 (fun j => j = gc ∨ O j) := ((GrownS.ofBelow hB).trans2 g2 (fun _ q => Or.inr q)).below bV
            have tl : W.heap.size < wc.heap.size := hZ4.lt
            have tg : wc.heap.size ≠ gc := fun e => by omega
            have kO : ∀ j, O' j → j < V7.heap.size := fun j q => OL.out m1 O' V7 j hI7 q
            clear bT b6 g7 bV bV5 hN hT e0 hI4 g2 hc4 hZ4 hyg
            generalize wc.heap.size = tk at hT7 nO3 tl tg ⊢
            generalize V6.heap.size = ib at B7 ⊢
            have SW := Lib.hid (fun s' t' w' (B : Blok w' gc tc (cpuCells s' on)) (T : Blok w' tk 38 (tkCells t')) (G : GrownS V7 w' (fun j => j = gc ∨ j = tk)) =>
              (⟨B, T, hZ7.gs G (fun q => q.elim (fun e => by omega) (fun e => by omega)), O', KP.out m1 O' V7 w' _ hI7 G (fun j q e => e.elim (fun e => nO1 (e ▸ q)) (fun e => nO3 (e ▸ q))), grownS_mono G (fun j q => q.elim Or.inl (fun e => Or.inr (Or.inl e))), fun j q => Or.inl q⟩ : SwPost I O' V7 gc tk W.heap.size tc on (m1, s', t') w'))
            have HR := Lib.hid (show R = tookO F m1 s on i ok ⟨0, s 28, x.val, 0, 0, 0, 0, false⟩ from HF.out)
            go_cut [8] (fun s8 wx => s8 = .pointer (some ⟨tk, 0, none⟩) ∧ SwPost I O' V7 gc tk W.heap.size tc on R wx)
            case first =>
              cases ok
              · have e1 : R = (m1, entS s 27 ((s 28 + 4) % 4294967296) 4, ⟨1, s 28, x.val, 0, 0, 0, 0, false⟩) := by rw [HR.out]; unfold tookO; rw [if_pos rfl]
                have HQ := Lib.hid e1
                clear e1 HR
                go_wp2_with (go_at_call 28; (with_reducible refine (EN.out _ 27 _ _ (by omega) hc7).mono ?_); rintro e w9 ⟨rfl, B9, g9⟩; have hT9 := hT7.grown g9 (fun e => tg (Option.some.inj e)); have z0 : w9.cell? ⟨tk, 0, none⟩ = some (.int .i64 0) := hT9.cell 0; have zf := hT9.frozen 0)
                go_meet
                rw [HQ.out]
                exact ⟨rfl, SW.out _ _ _ (B9.far (fun e => tg e.symm) _) (hT9.set_ 0 _) ((GrownS.ofOne g9 (Or.inl rfl)).one (grown_one _ _ _ _) (Or.inr rfl))⟩
              · have g29 : ∀ q, (grow V7 q).cell? ⟨gc, 29, none⟩ = some (.int .u32 (s 29)) := fun q => cpu_cell (hc7.below (grow_below V7 q) hc7.lt) 29 (by omega)
                have gi0 : ∀ q, (grow V7 q).cell? ⟨ib, 0, none⟩ = some (.int .i64 i.cond) := fun q => (B7.below (grow_below V7 q) B7.lt).cell 0
                have FL := Lib.hid (fun w => Flags_is (s 29) (hs 29 (by omega)).1 (hs 29 (by omega)).2 w)
                have PS := Lib.hid (fun n z c v w => Passed_is i.cond n z c v w)
                go_upto_region 17 with fail
                (refine wp_region_grow (by kernel_rfl) (by kernel_rfl) ?_; (repeat (go_big_quiet_step ((first | (go_at_call 21; exact calls_grow (PS.out _ _ _ _ _)) | (go_at_call 22; exact calls_grow (FL.out _)))))); refine wpQuiet_nil ?_; intro _ hw'; obtain ⟨ew, hw''⟩ := hw'; subst hw'')
                have b8 := grow_below V7 ew
                have hc8 := hc7.below b8 hc7.lt
                have hT8 := hT7.below b8 hT7.lt
                have hZ8 := hZ7.below b8 hZ7.lt
                have hi8 := B7.below b8 B7.lt
                have hI8 := KP.out m1 O' V7 (grow V7 ew) (fun _ => False) hI7 (GrownS.ofBelow b8) (fun _ _ q => q)
                clear g29 gi0 hc7 hT7 hZ7 B7
                generalize grow V7 ew = V8 at b8 hc8 hT8 hZ8 hi8 hI8 ⊢
                have c28 := cpu_cell hc8 28 (by omega)
                have f28 := hc8.frozen 28
                have c30 : V8.cell? ⟨gc, 30, none⟩ = some (.bool on) := hc8.cell 30
                have i1 : V8.cell? ⟨ib, 1, none⟩ = some (.int .i64 i.op) := hi8.cell 1
                have t0 : V8.cell? ⟨tk, 0, none⟩ = some (.int .i64 0) := hT8.cell 0
                have tf := hT8.frozen 0
                have hP : flagsI (s 29) = ⟨bt (s 29) 31, bt (s 29) 30, bt (s 29) 29, bt (s 29) 28⟩ := rfl
                have ST := Lib.hid (fun w9 (B9 : Blok w9 gc tc (cpuCells (entS s 0 0 0) on) → False) => B9)
                clear ST
                obtain ⟨pass, hpass⟩ : ∃ pass, passedB i.cond ⟨bt (s 29) 31, bt (s 29) 30, bt (s 29) 29, bt (s 29) 28⟩ = pass := ⟨_, rfl⟩
                rw [hpass]
                have HR2 := Lib.hid (show R = if pass = false then (m1, set s 28 ((s 28 + 4) % 4294967296), ⟨0, s 28, x.val, 0, 0, 0, 0, false⟩)
                  else if i.op = 45 then (m1, entS s 19 ((s 28 + 4) % 4294967296) 8, ⟨2, s 28, x.val, 0, 0, 0, 0, false⟩)
                  else if i.op = 46 then (m1, entS s 23 ((s 28 + 4) % 4294967296) 12, ⟨3, s 28, x.val, s 28, 0, 0, 0, false⟩)
                  else if i.op = 52 ∧ on = false then (m1, s, ⟨6, s 28, x.val, 0, 0, 0, 0, false⟩)
                  else ((execO F m1 s (set s 28 ((s 28 + 4) % 4294967296)) (s 28) i).1, doesS s (s 28) (execO F m1 s (set s 28 ((s 28 + 4) % 4294967296)) (s 28) i).2, doesT ⟨0, s 28, x.val, 0, 0, 0, 0, false⟩ (execO F m1 s (set s 28 ((s 28 + 4) % 4294967296)) (s 28) i).2) by
                  rw [HR.out]; unfold tookO; rw [if_neg (by simp), hP, hpass])
                clear HR hP hpass HF
                cases pass
                · have HQ := Lib.hid (HR2.out.trans (if_pos rfl))
                  clear HR2
                  go_wp2_with fail
                  go_meet
                  rw [HQ.out]
                  exact ⟨rfl, SW.out _ _ _ (hc8.setcpu 28 (by omega) _) (hT8.far tg _) (GrownS.one (S := fun j => j = gc ∨ j = tk) (GrownS.ofBelow b8) (grown_one _ _ _ _) (Or.inl rfl))⟩
                have HR3 := Lib.hid (HR2.out.trans (if_neg (by simp)))
                clear HR2
                by_cases o45 : i.op = 45
                · have HQ := Lib.hid (HR3.out.trans (if_pos o45))
                  rw [o45] at i1
                  clear HR3 o45
                  go_wp2_with (go_at_call 28; (with_reducible refine (EN.out _ 19 _ _ (by omega) hc8).mono ?_); rintro e w9 ⟨rfl, B9, g9⟩; have hT9 := hT8.grown g9 (fun e => tg (Option.some.inj e)); have z0 : w9.cell? ⟨tk, 0, none⟩ = some (.int .i64 0) := hT9.cell 0; have zf := hT9.frozen 0)
                  go_meet
                  rw [HQ.out]
                  exact ⟨rfl, SW.out _ _ _ (B9.far (fun e => tg e.symm) _) (hT9.set_ 0 _) (((GrownS.ofBelow b8).one g9 (Or.inl rfl)).one (grown_one _ _ _ _) (Or.inr rfl))⟩
                have HR4 := Lib.hid (HR3.out.trans (if_neg o45))
                have z45 : (i.op == 45) = false := by simp [o45]
                clear HR3 o45
                by_cases o46 : i.op = 46
                · have HQ := Lib.hid (HR4.out.trans (if_pos o46))
                  rw [o46] at i1
                  clear HR4 o46 z45
                  go_wp2_with (go_at_call 28; (with_reducible refine (EN.out _ 23 _ _ (by omega) hc8).mono ?_); rintro e w9 ⟨rfl, B9, g9⟩; have hT9 := hT8.grown g9 (fun e => tg (Option.some.inj e)); have z0 : w9.cell? ⟨tk, 0, none⟩ = some (.int .i64 0) := hT9.cell 0; have zf := hT9.frozen 0; have z3 : w9.cell? ⟨tk, 3, none⟩ = some (.int .u32 0) := hT9.cell 3; have zg := hT9.frozen 3)
                  go_meet
                  rw [HQ.out]
                  exact ⟨rfl, SW.out _ _ _ ((B9.far (fun e => tg e.symm) _).far (fun e => tg e.symm) _) ((hT9.set_ 0 _).set_ 3 _) ((((GrownS.ofBelow b8).one g9 (Or.inl rfl)).one (grown_one _ _ _ _) (Or.inr rfl)).one (grown_one _ _ _ _) (Or.inr rfl))⟩
                have HR5 := Lib.hid (HR4.out.trans (if_neg o46))
                have z46 : (i.op == 46) = false := by simp [o46]
                clear HR4 o46
                by_cases o52 : i.op = 52 ∧ on = false
                · have HQ := Lib.hid (HR5.out.trans (if_pos o52))
                  rw [o52.1] at i1
                  rw [o52.2] at c30
                  clear HR5 z45 z46
                  go_wp2_with fail
                  go_meet
                  rw [HQ.out]
                  exact ⟨rfl, SW.out _ _ _ (hc8.far (fun e => tg e.symm) _) (hT8.set_ 0 _) (GrownS.one (S := fun j => j = gc ∨ j = tk) (GrownS.ofBelow b8) (grown_one _ _ _ _) (Or.inr rfl))⟩
                have HQ := Lib.hid (HR5.out.trans (if_neg o52))
                clear HR5
                have DO := Lib.hid (does_is L m1 O' s i on gc tk tc 38 ⟨0, s 28, x.val, 0, 0, 0, 0, false⟩ hs GI.toInsOk V8 hc8 hT8 hI8 (by omega) nO1 nO3 tg (GO rfl) GI.am (fun pe q => exec_ab F m1 s _ _ i pe q))
                rw [← insCells_lit i] at DO
                generalize execO F m1 s (set s 28 ((s 28 + 4) % 4294967296)) (s 28) i = q at DO HQ
                have FIN := Lib.hid (fun w9 (D : DoesPost I O' V8 gc tk tc 38 on q.1 (doesS s (s 28) q.2) (doesT ⟨0, s 28, x.val, 0, 0, 0, 0, false⟩ q.2) (.returned (.tuple #[])) w9) => by
                  obtain ⟨_, B9, T9, O9, hI9, g9, k9⟩ := D
                  have k8 := b8.size
                  exact (⟨B9, T9, hZ8.gs g9 (fun q => q.elim (fun e => by omega) (fun q => q.elim (fun e => by omega) nO2)), O9, hI9, ⟨g9.os.trans b8.os, g9.tape.trans b8.tape, g9.output.trans b8.output, Nat.le_trans b8.size g9.size, fun j hj hn => (g9.block j (by omega) hn).trans (b8.block j hj)⟩, fun j q => (k9 j q).imp id (fun l => by omega)⟩ : SwPost I O' V7 gc tk W.heap.size tc on (q.1, doesS s (s 28) q.2, doesT ⟨0, s 28, x.val, 0, 0, 0, 0, false⟩ q.2) w9))
                have tt : (i.op = 52 ∧ on = true) ∨ (i.op == 52) = false := by
                  by_cases q52 : i.op = 52
                  · cases on
                    · exact absurd ⟨q52, rfl⟩ o52
                    · exact Or.inl ⟨q52, rfl⟩
                  · exact Or.inr (by simp [q52])
                clear o52 c28 f28 t0 tf
                rcases tt with ⟨q52, qon⟩ | z52
                · rw [q52] at i1
                  rw [qon] at c30
                  clear q52 qon
                  go_wp2_with (first | (go_at_call 29; (with_reducible refine (DO.out).mono ?_); intro e w9 D; obtain rfl := D.1) | (refine wpList_load_ins rfl (.tmp 9) rfl ib i rfl hi8 ?_))
                  go_meet
                  rw [HQ.out]
                  exact ⟨rfl, FIN.out _ D⟩
                · go_wp2_with (first | (go_at_call 29; (with_reducible refine (DO.out).mono ?_); intro e w9 D; obtain rfl := D.1) | (refine wpList_load_ins rfl (.tmp 9) rfl ib i rfl hi8 ?_))
                  go_meet
                  rw [HQ.out]
                  exact ⟨rfl, FIN.out _ D⟩
            case rest =>
              obtain ⟨rfl, D⟩ := hcut
              go_wp2_with (first | (refine wpList_load_mid rfl 38 (.tmp 8) rfl tk 0 rfl (tkCells R.2.2) _ D.took.range Try.underlying38 rfl took_size ?_) | (refine wpList_store_blok rfl 38 (.tmp 4) (.tmp 136) rfl W.heap.size 0 (tkCells R.2.2).toArray rfl rfl D.z (by simp [tkCells]) took_size (tkCells_one _) ?_; intro w6 B6 g6 _z6))
              refine ret_ct 5 4 _ 38 W.heap.size (tkCells R.2.2) _ rfl rfl rfl (took_store B6).range Try.underlying38 rfl took_size rfl ?_
              obtain ⟨O2, hI2, G2, k2'⟩ := D.bus
              have q2 : ∀ j, O2 j → O j ∨ W.heap.size ≤ j := fun j q => (k2' j q).elim (k3 j) (fun l => Or.inr (by have := G7.size; omega))
              have nz2 : ¬ O2 W.heap.size := fun q => (k2' _ q).elim nO2 (fun l => by have := hZ7.lt; omega)
              refine ⟨rfl, D.blk.grown g6 (fun e => by have := Option.some.inj e; omega), O2, KP.out _ O2 wc w6 (fun j => j = W.heap.size) hI2 (GrownS.ofOne g6 rfl) (fun j q e => nz2 (e ▸ q)), ?_, q2⟩
              have G3 : GrownS W wc (fun j => j = gc ∨ O j) := ⟨G2.os.trans G7.os, G2.tape.trans G7.tape, G2.output.trans G7.output, Nat.le_trans G7.size G2.size, fun j hj hn => (G2.block j (Nat.lt_of_lt_of_le hj G7.size) (fun q => q.elim (fun e => hn (Or.inl e)) (fun q => q.elim (fun e => by omega) (fun o => (k3 j o).elim (fun o => hn (Or.inr o)) (fun l => by omega))))).trans (G7.block j hj hn)⟩
              exact G3.new g6 (Nat.le_refl _)
    · have e1 : R = (m, entS s 18 ((s 28 + 4) % 4294967296) 24, ⟨5, s 28, 0, 0, 0, 0, 0, false⟩) := by rw [HR.out, if_pos (by simpa using hq.symm)]
      have HE := Lib.hid e1
      clear e1 hq
      go_wp2_with (first | (go_at_call 28; refine (EN.out _ 18 _ _ (Or.inl rfl) hc2).mono ?_; rintro e w3 ⟨rfl, B3, g3⟩) | (refine wpList_store_blok rfl 38 (.tmp 4) (.tmp 37) rfl W.heap.size 0 (tkCells ⟨5, s 28, 0, 0, 0, 0, 0, false⟩).toArray rfl rfl (hZ.grown g3 (fun e => by have := Option.some.inj e; omega)) (by simp [tkCells]) took_size (tkCells_one _) ?_; intro w4 B4 g4 _z4))
      refine ret_ct 5 4 _ 38 W.heap.size (tkCells ⟨5, s 28, 0, 0, 0, 0, 0, false⟩) _ rfl rfl rfl (took_store B4).range Try.underlying38 rfl took_size rfl ?_
      rw [HE.out]
      have G : GrownS W w4 (fun j => j = gc) := (GrownS.one (S := fun j => j = gc) (GrownS.ofBelow hB) g3 rfl).new g4 (Nat.le_refl _)
      exact ⟨rfl, B3.grown g4 (fun e => by have := Option.some.inj e; omega), O, L.keep m O W w4 (fun j => j = gc) hI G (fun j q e => hg (e ▸ q)), grownS_mono G (fun j q => Or.inl q), fun j q => Or.inl q⟩
end Go.Proofs.Ytpfhplhamnohjaa
