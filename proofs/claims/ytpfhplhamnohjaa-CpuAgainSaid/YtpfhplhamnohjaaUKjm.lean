/- Layer 20: one (a load or a store of one). -/
import Derived.Test.YtpfhplhamnohjaaG11
namespace Go.Proofs.Ytpfhplhamnohjaa
set_option maxHeartbeats 25600000
set_option maxRecDepth 100000
open Go.RowKit

def offI (o : Sta) (at_ : Int) (i : Ins) : Int := if i.form = 2 then (operI o at_ i).1 else i.imm
def offU (o : Sta) (at_ : Int) (i : Ins) : Int := if i.up then offI o at_ i else -offI o at_ i % 4294967296
def oneAt (o : Sta) (at_ : Int) (i : Ins) : Int := if i.pre then (getI o at_ i.rn + offU o at_ i) % 4294967296 else getI o at_ i.rn
def storeB (op : Int) : Bool := op == 32 || (op == 34 || op == 36)
def extI (op x : Int) : Int := if op = 37 then wrap32 (IntKind.i8.wrap x) % 4294967296 else if op = 38 then wrap32 (IntKind.i16.wrap x) % 4294967296 else x
def oneB (o s : Sta) (at_ : Int) (i : Ins) : Sta := if !i.pre || i.write then putS s i.rn ((getI o at_ i.rn + offU o at_ i) % 4294967296) else s
def oneS (o s : Sta) (at_ : Int) (i : Ins) (x : Int) : Sta := if storeB i.op then oneB o s at_ i else putS (oneB o s at_ i) i.rd (extI i.op x)
def oneR {M : Type} (F : BusM M) (m : M) (o : Sta) (at_ : Int) (i : Ins) : M × Ans :=
  F.acc m (if storeB i.op then 3 else 2) (oneAt o at_ i) (sizeI i.op) (if storeB i.op then getI o at_ i.rd else 0) (!userB o)
def oneP {M : Type} (F : BusM M) (m : M) (o : Sta) (at_ : Int) (i : Ins) : List PanicEntry :=
  abortP (if storeB i.op then 3 else 2) (oneAt o at_ i) (sizeI i.op) (if storeB i.op then getI o at_ i.rd else 0) (!userB o) (oneR F m o at_ i).2
theorem offI_u (o : Sta) (at_ : Int) (i : Ins) (ho : OkS o) (hi : InsOk i) : 0 ≤ offI o at_ i ∧ offI o at_ i < 4294967296 := by
  unfold offI
  split
  · exact operI_u o at_ i ho hi
  · exact hi.imm
theorem offU_u (o : Sta) (at_ : Int) (i : Ins) (ho : OkS o) (hi : InsOk i) : 0 ≤ offU o at_ i ∧ offU o at_ i < 4294967296 := by
  unfold offU
  split
  · exact offI_u o at_ i ho hi
  · omega
theorem oneAt_u (o : Sta) (at_ : Int) (i : Ins) (ho : OkS o) (hi : InsOk i) : 0 ≤ oneAt o at_ i ∧ oneAt o at_ i < 4294967296 := by
  unfold oneAt
  split
  · omega
  · exact getI_u o at_ i.rn ho hi.rn.1
theorem sizeI_of (op : Int) : sizeI op = 1 ∨ sizeI op = 2 ∨ sizeI op = 4 := by
  unfold sizeI
  split
  · exact Or.inr (Or.inr rfl)
  split
  · exact Or.inr (Or.inl rfl)
  · exact Or.inl rfl
theorem doneB_end {T : TypeId} {V : Value} {M : Type} {I : M → (Nat → Prop) → World → Prop} {F : BusM M} {fA fC fR : Nat} (L : BusLaw T V I F fA fC fR) {m : M} {O O' : Nat → Prop} {W w5 w' : World} {g : Nat} {t : TypeId} {o s : Sta} {b : Value} {at_ : Int} {i : Ins} {wt : Bool} (s' : Sta)
    (hI : I m O' w5) (g6 : GrownS W w5 O) (k6 : ∀ j, O' j → O j ∨ W.heap.size ≤ j) (hg : ¬ O g) (hlt : g < W.heap.size) (Bl : Blok w' g t (workCells o s' b at_ i wt)) (gr : w5.grownBy w' (some g)) : DoneB I O W g t o s b at_ i wt m (.ok s') (.returned (.tuple #[])) w' := by
  have hn : ∀ j, O' j → ¬ j = g := fun j q e => (k6 j q).elim (fun a => hg (e ▸ a)) (fun a => by omega)
  exact ⟨rfl, Bl, O', L.keep m O' w5 w' (fun j => j = g) hI (GrownS.ofOne gr rfl) hn, (grownS_mono g6 (fun _ q => Or.inr q)).trans (GrownS.ofOne gr (Or.inl rfl)), k6⟩
theorem one_store {T : TypeId} {V0 : Value} {M : Type} {I : M → (Nat → Prop) → World → Prop} {F : BusM M} {fA fC fR : Nat} (L : BusLaw T V0 I F fA fC fR) (m : M) (O : Nat → Prop)
    (o s : Sta) (at_ : Int) (i : Ins) (wt : Bool) (g : Nat) (t : TypeId) (ho : OkS o) (hs : OkS s) (hi : InsOk i) (hst : i.op = 32 ∨ i.op = 34 ∨ i.op = 36) (hop : 31 ≤ i.op ∧ i.op ≤ 38) (W : World) (h : Blok W g t (workCells o s (.iface T V0) at_ i wt)) (hI : I m O W) (hg : ¬ O g) (hf : 0 < F.fuel m) :
    Calls Try.prog 51 #[.pointer (some ⟨g, 0, none⟩)] W
      (DoneB I O W g t o s (.iface T V0) at_ i wt (oneR F m o at_ i).1 (if (oneR F m o at_ i).2.ok = true then .ok (oneS o s at_ i (oneR F m o at_ i).2.val) else .ab (oneP F m o at_ i))) := by
  have hlt := h.lt
  have HB := Lib.hid (fun w' (k : Below W.heap.size W w') => h.below k hlt)
  have OP := Lib.hid (operand_is o s (.iface T V0) at_ i wt g t ho hi W h)
  have GN := Lib.hid (fun w' k => get_is' o s (.iface T V0) at_ i wt g t i.rn ho hi.rn w' (HB.out w' k))
  have GR := Lib.hid (fun w' k => get_is' o s (.iface T V0) at_ i wt g t i.rd ho hi.rd w' (HB.out w' k))
  have SZ := Lib.hid (fun w' => size_is i.op hop w')
  have hI1 : ∀ w', Below W.heap.size W w' → I m O w' := fun w' k => L.keep m O W w' (fun _ => False) hI (GrownS.ofBelow k) (fun _ _ q => q)
  have hb0 : Below W.heap.size W W := Below.refl _ _
  have u2 := oneAt_u o at_ i ho hi
  have ur := getI_u o at_ i.rd ho hi.rd.1
  have hs1 : OkS (putS s i.rn ((getI o at_ i.rn + offU o at_ i) % 4294967296)) := okS_put hs _ (by omega)
  have PN := Lib.hid (fun w' (k : Blok w' g t (workCells o s (.iface T V0) at_ i wt)) => put_is o s (.iface T V0) at_ i wt g t i.rn ((getI o at_ i.rn + offU o at_ i) % 4294967296) hs hi.rn w' k)
  have PR := Lib.hid (fun s' v w' (hs' : OkS s') (k : Blok w' g t (workCells o s' (.iface T V0) at_ i wt)) => put_is o s' (.iface T V0) at_ i wt g t i.rd v hs' hi.rd w' k)
  have hX0 := Lib.hid (show (i.form = 2 → offI o at_ i = (operI o at_ i).1) ∧ (¬ i.form = 2 → offI o at_ i = i.imm) from ⟨fun e => by unfold offI; rw [if_pos e], fun e => by unfold offI; rw [if_neg e]⟩)
  have hX1 := Lib.hid (show (i.up = true → offU o at_ i = offI o at_ i) ∧ (i.up = false → offU o at_ i = -offI o at_ i % 4294967296) from ⟨fun e => by unfold offU; rw [if_pos e], fun e => by unfold offU; rw [e]; rfl⟩)
  have hX2 := Lib.hid (show (i.pre = true → oneAt o at_ i = (getI o at_ i.rn + offU o at_ i) % 4294967296) ∧ (i.pre = false → oneAt o at_ i = getI o at_ i.rn) from ⟨fun e => by unfold oneAt; rw [if_pos e], fun e => by unfold oneAt; rw [e]; rfl⟩)
  have x0u := offI_u o at_ i ho hi
  have x1u := offU_u o at_ i ho hi
  have c63 : ∀ w', Below W.heap.size W w' → w'.cell? ⟨g, 63, none⟩ = some (.int .i64 i.op) := fun w' k => (HB.out w' k).cell 63
  have c65 : ∀ w', Below W.heap.size W w' → w'.cell? ⟨g, 65, none⟩ = some (.int .i64 i.form) := fun w' k => (HB.out w' k).cell 65
  have c66 : ∀ w', Below W.heap.size W w' → w'.cell? ⟨g, 66, none⟩ = some (.int .i64 i.rd) := fun w' k => (HB.out w' k).cell 66
  have c67 : ∀ w', Below W.heap.size W w' → w'.cell? ⟨g, 67, none⟩ = some (.int .i64 i.rn) := fun w' k => (HB.out w' k).cell 67
  have c71 : ∀ w', Below W.heap.size W w' → w'.cell? ⟨g, 71, none⟩ = some (.int .u32 i.imm) := fun w' k => (HB.out w' k).cell 71
  have c74 : ∀ w', Below W.heap.size W w' → w'.cell? ⟨g, 74, none⟩ = some (.bool i.pre) := fun w' k => (HB.out w' k).cell 74
  have c75 : ∀ w', Below W.heap.size W w' → w'.cell? ⟨g, 75, none⟩ = some (.bool i.up) := fun w' k => (HB.out w' k).cell 75
  obtain ⟨r, hr⟩ : ∃ r, r = (if (oneR F m o at_ i).2.ok = true then Out.ok (oneS o s at_ i (oneR F m o at_ i).2.val) else .ab (oneP F m o at_ i)) := ⟨_, rfl⟩
  rw [← hr]
  have hsb : storeB i.op = true := by rcases hst with e | e | e <;> simp [storeB, e]
  have BU := Lib.hid (fun w' (k : Below W.heap.size W w') => bus_is L m O o s at_ i wt g t 3 (oneAt o at_ i) (sizeI i.op) (getI o at_ i.rd) ho u2 ur (by simp) (sizeI_of i.op) w' (HB.out w' k) (hI1 w' k) hg hf)
  clear hf
  unfold oneS oneP oneR oneB at hr
  unfold oneR
  rw [hsb] at hr ⊢
  simp only [if_true] at hr ⊢
  generalize F.acc m 3 (oneAt o at_ i) (sizeI i.op) (getI o at_ i.rd) (!userB o) = q at BU hr ⊢
  obtain ⟨m', x⟩ := q
  dsimp only at BU hr ⊢
  have e37 : (i.op == 37) = false := by rcases hst with e | e | e <;> simp [e]
  have e38 : (i.op == 38) = false := by rcases hst with e | e | e <;> simp [e]
  generalize oneAt o at_ i = x2 at BU hr u2 hX2
  generalize offU o at_ i = x1 at PN hr x1u hX1 hX2 hs1
  generalize offI o at_ i = x0 at x0u hX0 hX1
  generalize getI o at_ i.rn = bs at GN PN hr hX2 hs1
  generalize getI o at_ i.rd = gv at GR BU hr ur
  generalize sizeI i.op = sz at SZ BU hr
  generalize (operI o at_ i).1 = ow at OP hX0
  have HR := Lib.hid hr
  clear hr hI1 hop h HB hI hsb
  rcases hst with e | e | e
  · have t32 : (i.op == 32) = true := by simp [e]
    clear e
    go_enter Try.func51, Try.ntmps51
    go_upto_if 18 with fail
    go_cut [2] (fun s2 wx => s2 = .int .u32 x0 ∧ Below W.heap.size W wx)
    case first =>
      by_cases hf : i.form = 2
      · have z : (i.form == 2) = true := by simp [hf]
        have hv := hX0.out.1 hf
        clear hf
        go_wp2_with (go_at_call 62; (with_reducible refine (OP.out).mono ?_); rintro e w1 ⟨rfl, b1⟩)
        go_meet
        exact ⟨by rw [hv], b1⟩
      · have z : (i.form == 2) = false := by simp [hf]
        have hv := hX0.out.2 hf
        clear hf
        go_wp2_with fail
        go_meet
        exact ⟨by rw [hv], Below.refl _ _⟩
    case rest =>
      obtain ⟨rfl, hb⟩ := hcut
      obtain ⟨V, rfl⟩ : ∃ V, V = wc := ⟨_, rfl⟩
      clear OP hX0
      go_upto_if 29 with fail
      go_cut [2] (fun s2 wx => s2 = .int .u32 x1 ∧ wx = V)
      case first =>
        have c75' := c75 V hb
        cases zu : i.up
        · rw [zu] at c75'
          have hv := hX1.out.2 zu
          clear c75
          go_wp2_with fail
          go_meet
          exact ⟨by rw [hv], rfl⟩
        · rw [zu] at c75'
          have hv := hX1.out.1 zu
          clear c75
          go_wp2_with fail
          go_meet
          exact ⟨by rw [hv], rfl⟩
      case rest =>
        obtain ⟨rfl, rfl⟩ := hcut
        obtain ⟨V, rfl⟩ : ∃ V, V = wc := ⟨_, rfl⟩
        clear hX1 c75
        go_upto_if 44 with (go_at_call 64; (with_reducible refine (GN.out V hb).mono ?_); rintro e w1 ⟨rfl, k, rfl⟩)
        have hb1 : Below W.heap.size W (V.drewN k) := bdrewN hb k
        generalize V.drewN k = V1 at hb1 ⊢
        clear hb GN
        go_cut [4] (fun s4 wx => s4 = .int .u32 x2 ∧ wx = V1)
        case first =>
          have c74' := c74 V1 hb1
          cases zu : i.pre
          · rw [zu] at c74'
            have hv := hX2.out.2 zu
            clear c74
            go_wp2_with fail
            go_meet
            exact ⟨by rw [hv], rfl⟩
          · rw [zu] at c74'
            have hv := hX2.out.1 zu
            clear c74
            go_wp2_with fail
            go_meet
            exact ⟨by rw [hv], rfl⟩
        case rest =>
          obtain ⟨rfl, rfl⟩ := hcut
          obtain ⟨V1, rfl⟩ : ∃ V1, V1 = wc := ⟨_, rfl⟩
          clear hX2 c74
          cases hx : x.ok
          · go_wp2_with (first | (go_at_call 64; (with_reducible refine (GR.out _ hb1).mono ?_); rintro e w2 ⟨rfl, k2, rfl⟩) | (go_at_call 71; (with_reducible refine (SZ.out _).mono ?_); rintro e w3 ⟨rfl, rfl⟩) | (go_at_call 70; (with_reducible refine (BU.out _ ?_).mono ?_); (first | exact hb1 | exact bdrewN hb1 _); rintro e w5 ⟨he, B5, O', hI5, g5, k5⟩; rw [hx] at he; simp only [Bool.false_eq_true, if_false] at he; subst he))
            refine And.intro rfl ?_
            have hN := HR.out
            rw [hx] at hN
            rw [hN]
            exact ⟨rfl, B5, O', hI5, grownS_mono ((GrownS.ofBelow (by first | exact hb1 | exact bdrewN hb1 _)).trans g5) (fun _ q => Or.inr q), fun j q => (k5 j q).imp id (fun a => Nat.le_trans hb1.size a)⟩
          · go_upto_region 14 with (first | (go_at_call 64; (with_reducible refine (GR.out _ hb1).mono ?_); rintro e w2 ⟨rfl, k2, rfl⟩) | (go_at_call 71; (with_reducible refine (SZ.out _).mono ?_); rintro e w3 ⟨rfl, rfl⟩) | (go_at_call 70; (with_reducible refine (BU.out _ ?_).mono ?_); (first | exact hb1 | exact bdrewN hb1 _); rintro e w5 ⟨he, B5, O', hI5, g5, k5⟩; rw [hx] at he; simp only [if_true] at he; subst he; have d74 : w5.cell? ⟨g, 74, none⟩ = some (.bool i.pre) := B5.cell 74; have d76 : w5.cell? ⟨g, 76, none⟩ = some (.bool i.write) := B5.cell 76; have d67 : w5.cell? ⟨g, 67, none⟩ = some (.int .i64 i.rn) := B5.cell 67; have d63 : w5.cell? ⟨g, 63, none⟩ = some (.int .i64 i.op) := B5.cell 63; have d66 : w5.cell? ⟨g, 66, none⟩ = some (.int .i64 i.rd) := B5.cell 66))
            have hN := HR.out
            rw [hx] at hN
            simp only [if_true] at hN
            have g6 : GrownS W w5 O := (GrownS.ofBelow (by first | exact hb1 | exact bdrewN hb1 _)).trans g5
            have k6 : ∀ j, O' j → O j ∨ W.heap.size ≤ j := fun j q => (k5 j q).imp id (fun a => Nat.le_trans hb1.size a)
            have FI := Lib.hid (fun s' w' (Bl : Blok w' g t (workCells o s' (.iface T V0) at_ i wt)) (gr : w5.grownBy w' (some g)) => (doneB_end L s' hI5 g6 k6 hg hlt Bl gr : DoneB I O W g t o s (.iface T V0) at_ i wt m' (.ok s') _ w'))
            clear BU GR hx g5 k5
            cases zp : i.pre
            all_goals (rw [zp] at d74 hN; cases zw : i.write)
            all_goals rw [zw] at d76 hN
            all_goals simp at hN
            all_goals have HN := Lib.hid hN
            all_goals (clear hN; (try clear zp); (try clear zw))
            all_goals go_wp2_with (first | (go_at_call_of 66 (Value.int IntKind.i64 i.rn); (with_reducible refine (PN.out _ B5).mono ?_); rintro e w7 ⟨rfl, B7, g7⟩; have f63 : w7.cell? ⟨g, 63, none⟩ = some (.int .i64 i.op) := B7.cell 63; have f66 : w7.cell? ⟨g, 66, none⟩ = some (.int .i64 i.rd) := B7.cell 66) | (go_at_call 66; (with_reducible refine (PR.out _ _ _ ?_ ?_).mono ?_); (first | exact hs | exact hs1); (first | exact B7 | exact B5); rintro e w8 ⟨rfl, B8, g8⟩))
            all_goals (first | go_end0 | refine bodyPost_ret (results_none rfl _ _ _) rfl ?_)
            all_goals rw [HN.out]
            all_goals first | exact FI.out _ _ B8 (gtrans g7 g8) | exact FI.out _ _ B8 g8 | exact FI.out _ _ B7 g7 | exact FI.out _ _ B5 (World.grownBy.refl _ _)
  · have t32 : (i.op == 32) = false := by simp [e]
    have t34 : (i.op == 34) = true := by simp [e]
    clear e
    go_enter Try.func51, Try.ntmps51
    go_upto_if 18 with fail
    go_cut [2] (fun s2 wx => s2 = .int .u32 x0 ∧ Below W.heap.size W wx)
    case first =>
      by_cases hf : i.form = 2
      · have z : (i.form == 2) = true := by simp [hf]
        have hv := hX0.out.1 hf
        clear hf
        go_wp2_with (go_at_call 62; (with_reducible refine (OP.out).mono ?_); rintro e w1 ⟨rfl, b1⟩)
        go_meet
        exact ⟨by rw [hv], b1⟩
      · have z : (i.form == 2) = false := by simp [hf]
        have hv := hX0.out.2 hf
        clear hf
        go_wp2_with fail
        go_meet
        exact ⟨by rw [hv], Below.refl _ _⟩
    case rest =>
      obtain ⟨rfl, hb⟩ := hcut
      obtain ⟨V, rfl⟩ : ∃ V, V = wc := ⟨_, rfl⟩
      clear OP hX0
      go_upto_if 29 with fail
      go_cut [2] (fun s2 wx => s2 = .int .u32 x1 ∧ wx = V)
      case first =>
        have c75' := c75 V hb
        cases zu : i.up
        · rw [zu] at c75'
          have hv := hX1.out.2 zu
          clear c75
          go_wp2_with fail
          go_meet
          exact ⟨by rw [hv], rfl⟩
        · rw [zu] at c75'
          have hv := hX1.out.1 zu
          clear c75
          go_wp2_with fail
          go_meet
          exact ⟨by rw [hv], rfl⟩
      case rest =>
        obtain ⟨rfl, rfl⟩ := hcut
        obtain ⟨V, rfl⟩ : ∃ V, V = wc := ⟨_, rfl⟩
        clear hX1 c75
        go_upto_if 44 with (go_at_call 64; (with_reducible refine (GN.out V hb).mono ?_); rintro e w1 ⟨rfl, k, rfl⟩)
        have hb1 : Below W.heap.size W (V.drewN k) := bdrewN hb k
        generalize V.drewN k = V1 at hb1 ⊢
        clear hb GN
        go_cut [4] (fun s4 wx => s4 = .int .u32 x2 ∧ wx = V1)
        case first =>
          have c74' := c74 V1 hb1
          cases zu : i.pre
          · rw [zu] at c74'
            have hv := hX2.out.2 zu
            clear c74
            go_wp2_with fail
            go_meet
            exact ⟨by rw [hv], rfl⟩
          · rw [zu] at c74'
            have hv := hX2.out.1 zu
            clear c74
            go_wp2_with fail
            go_meet
            exact ⟨by rw [hv], rfl⟩
        case rest =>
          obtain ⟨rfl, rfl⟩ := hcut
          obtain ⟨V1, rfl⟩ : ∃ V1, V1 = wc := ⟨_, rfl⟩
          clear hX2 c74
          cases hx : x.ok
          · go_wp2_with (first | (go_at_call 64; (with_reducible refine (GR.out _ hb1).mono ?_); rintro e w2 ⟨rfl, k2, rfl⟩) | (go_at_call 71; (with_reducible refine (SZ.out _).mono ?_); rintro e w3 ⟨rfl, rfl⟩) | (go_at_call 70; (with_reducible refine (BU.out _ ?_).mono ?_); (first | exact hb1 | exact bdrewN hb1 _); rintro e w5 ⟨he, B5, O', hI5, g5, k5⟩; rw [hx] at he; simp only [Bool.false_eq_true, if_false] at he; subst he))
            refine And.intro rfl ?_
            have hN := HR.out
            rw [hx] at hN
            rw [hN]
            exact ⟨rfl, B5, O', hI5, grownS_mono ((GrownS.ofBelow (by first | exact hb1 | exact bdrewN hb1 _)).trans g5) (fun _ q => Or.inr q), fun j q => (k5 j q).imp id (fun a => Nat.le_trans hb1.size a)⟩
          · go_upto_region 14 with (first | (go_at_call 64; (with_reducible refine (GR.out _ hb1).mono ?_); rintro e w2 ⟨rfl, k2, rfl⟩) | (go_at_call 71; (with_reducible refine (SZ.out _).mono ?_); rintro e w3 ⟨rfl, rfl⟩) | (go_at_call 70; (with_reducible refine (BU.out _ ?_).mono ?_); (first | exact hb1 | exact bdrewN hb1 _); rintro e w5 ⟨he, B5, O', hI5, g5, k5⟩; rw [hx] at he; simp only [if_true] at he; subst he; have d74 : w5.cell? ⟨g, 74, none⟩ = some (.bool i.pre) := B5.cell 74; have d76 : w5.cell? ⟨g, 76, none⟩ = some (.bool i.write) := B5.cell 76; have d67 : w5.cell? ⟨g, 67, none⟩ = some (.int .i64 i.rn) := B5.cell 67; have d63 : w5.cell? ⟨g, 63, none⟩ = some (.int .i64 i.op) := B5.cell 63; have d66 : w5.cell? ⟨g, 66, none⟩ = some (.int .i64 i.rd) := B5.cell 66))
            have hN := HR.out
            rw [hx] at hN
            simp only [if_true] at hN
            have g6 : GrownS W w5 O := (GrownS.ofBelow (by first | exact hb1 | exact bdrewN hb1 _)).trans g5
            have k6 : ∀ j, O' j → O j ∨ W.heap.size ≤ j := fun j q => (k5 j q).imp id (fun a => Nat.le_trans hb1.size a)
            have FI := Lib.hid (fun s' w' (Bl : Blok w' g t (workCells o s' (.iface T V0) at_ i wt)) (gr : w5.grownBy w' (some g)) => (doneB_end L s' hI5 g6 k6 hg hlt Bl gr : DoneB I O W g t o s (.iface T V0) at_ i wt m' (.ok s') _ w'))
            clear BU GR hx g5 k5
            cases zp : i.pre
            all_goals (rw [zp] at d74 hN; cases zw : i.write)
            all_goals rw [zw] at d76 hN
            all_goals simp at hN
            all_goals have HN := Lib.hid hN
            all_goals (clear hN; (try clear zp); (try clear zw))
            all_goals go_wp2_with (first | (go_at_call_of 66 (Value.int IntKind.i64 i.rn); (with_reducible refine (PN.out _ B5).mono ?_); rintro e w7 ⟨rfl, B7, g7⟩; have f63 : w7.cell? ⟨g, 63, none⟩ = some (.int .i64 i.op) := B7.cell 63; have f66 : w7.cell? ⟨g, 66, none⟩ = some (.int .i64 i.rd) := B7.cell 66) | (go_at_call 66; (with_reducible refine (PR.out _ _ _ ?_ ?_).mono ?_); (first | exact hs | exact hs1); (first | exact B7 | exact B5); rintro e w8 ⟨rfl, B8, g8⟩))
            all_goals (first | go_end0 | refine bodyPost_ret (results_none rfl _ _ _) rfl ?_)
            all_goals rw [HN.out]
            all_goals first | exact FI.out _ _ B8 (gtrans g7 g8) | exact FI.out _ _ B8 g8 | exact FI.out _ _ B7 g7 | exact FI.out _ _ B5 (World.grownBy.refl _ _)
  · have t32 : (i.op == 32) = false := by simp [e]
    have t34 : (i.op == 34) = false := by simp [e]
    have t36 : (i.op == 36) = true := by simp [e]
    clear e
    go_enter Try.func51, Try.ntmps51
    go_upto_if 18 with fail
    go_cut [2] (fun s2 wx => s2 = .int .u32 x0 ∧ Below W.heap.size W wx)
    case first =>
      by_cases hf : i.form = 2
      · have z : (i.form == 2) = true := by simp [hf]
        have hv := hX0.out.1 hf
        clear hf
        go_wp2_with (go_at_call 62; (with_reducible refine (OP.out).mono ?_); rintro e w1 ⟨rfl, b1⟩)
        go_meet
        exact ⟨by rw [hv], b1⟩
      · have z : (i.form == 2) = false := by simp [hf]
        have hv := hX0.out.2 hf
        clear hf
        go_wp2_with fail
        go_meet
        exact ⟨by rw [hv], Below.refl _ _⟩
    case rest =>
      obtain ⟨rfl, hb⟩ := hcut
      obtain ⟨V, rfl⟩ : ∃ V, V = wc := ⟨_, rfl⟩
      clear OP hX0
      go_upto_if 29 with fail
      go_cut [2] (fun s2 wx => s2 = .int .u32 x1 ∧ wx = V)
      case first =>
        have c75' := c75 V hb
        cases zu : i.up
        · rw [zu] at c75'
          have hv := hX1.out.2 zu
          clear c75
          go_wp2_with fail
          go_meet
          exact ⟨by rw [hv], rfl⟩
        · rw [zu] at c75'
          have hv := hX1.out.1 zu
          clear c75
          go_wp2_with fail
          go_meet
          exact ⟨by rw [hv], rfl⟩
      case rest =>
        obtain ⟨rfl, rfl⟩ := hcut
        obtain ⟨V, rfl⟩ : ∃ V, V = wc := ⟨_, rfl⟩
        clear hX1 c75
        go_upto_if 44 with (go_at_call 64; (with_reducible refine (GN.out V hb).mono ?_); rintro e w1 ⟨rfl, k, rfl⟩)
        have hb1 : Below W.heap.size W (V.drewN k) := bdrewN hb k
        generalize V.drewN k = V1 at hb1 ⊢
        clear hb GN
        go_cut [4] (fun s4 wx => s4 = .int .u32 x2 ∧ wx = V1)
        case first =>
          have c74' := c74 V1 hb1
          cases zu : i.pre
          · rw [zu] at c74'
            have hv := hX2.out.2 zu
            clear c74
            go_wp2_with fail
            go_meet
            exact ⟨by rw [hv], rfl⟩
          · rw [zu] at c74'
            have hv := hX2.out.1 zu
            clear c74
            go_wp2_with fail
            go_meet
            exact ⟨by rw [hv], rfl⟩
        case rest =>
          obtain ⟨rfl, rfl⟩ := hcut
          obtain ⟨V1, rfl⟩ : ∃ V1, V1 = wc := ⟨_, rfl⟩
          clear hX2 c74
          cases hx : x.ok
          · go_wp2_with (first | (go_at_call 64; (with_reducible refine (GR.out _ hb1).mono ?_); rintro e w2 ⟨rfl, k2, rfl⟩) | (go_at_call 71; (with_reducible refine (SZ.out _).mono ?_); rintro e w3 ⟨rfl, rfl⟩) | (go_at_call 70; (with_reducible refine (BU.out _ ?_).mono ?_); (first | exact hb1 | exact bdrewN hb1 _); rintro e w5 ⟨he, B5, O', hI5, g5, k5⟩; rw [hx] at he; simp only [Bool.false_eq_true, if_false] at he; subst he))
            refine And.intro rfl ?_
            have hN := HR.out
            rw [hx] at hN
            rw [hN]
            exact ⟨rfl, B5, O', hI5, grownS_mono ((GrownS.ofBelow (by first | exact hb1 | exact bdrewN hb1 _)).trans g5) (fun _ q => Or.inr q), fun j q => (k5 j q).imp id (fun a => Nat.le_trans hb1.size a)⟩
          · go_upto_region 14 with (first | (go_at_call 64; (with_reducible refine (GR.out _ hb1).mono ?_); rintro e w2 ⟨rfl, k2, rfl⟩) | (go_at_call 71; (with_reducible refine (SZ.out _).mono ?_); rintro e w3 ⟨rfl, rfl⟩) | (go_at_call 70; (with_reducible refine (BU.out _ ?_).mono ?_); (first | exact hb1 | exact bdrewN hb1 _); rintro e w5 ⟨he, B5, O', hI5, g5, k5⟩; rw [hx] at he; simp only [if_true] at he; subst he; have d74 : w5.cell? ⟨g, 74, none⟩ = some (.bool i.pre) := B5.cell 74; have d76 : w5.cell? ⟨g, 76, none⟩ = some (.bool i.write) := B5.cell 76; have d67 : w5.cell? ⟨g, 67, none⟩ = some (.int .i64 i.rn) := B5.cell 67; have d63 : w5.cell? ⟨g, 63, none⟩ = some (.int .i64 i.op) := B5.cell 63; have d66 : w5.cell? ⟨g, 66, none⟩ = some (.int .i64 i.rd) := B5.cell 66))
            have hN := HR.out
            rw [hx] at hN
            simp only [if_true] at hN
            have g6 : GrownS W w5 O := (GrownS.ofBelow (by first | exact hb1 | exact bdrewN hb1 _)).trans g5
            have k6 : ∀ j, O' j → O j ∨ W.heap.size ≤ j := fun j q => (k5 j q).imp id (fun a => Nat.le_trans hb1.size a)
            have FI := Lib.hid (fun s' w' (Bl : Blok w' g t (workCells o s' (.iface T V0) at_ i wt)) (gr : w5.grownBy w' (some g)) => (doneB_end L s' hI5 g6 k6 hg hlt Bl gr : DoneB I O W g t o s (.iface T V0) at_ i wt m' (.ok s') _ w'))
            clear BU GR hx g5 k5
            cases zp : i.pre
            all_goals (rw [zp] at d74 hN; cases zw : i.write)
            all_goals rw [zw] at d76 hN
            all_goals simp at hN
            all_goals have HN := Lib.hid hN
            all_goals (clear hN; (try clear zp); (try clear zw))
            all_goals go_wp2_with (first | (go_at_call_of 66 (Value.int IntKind.i64 i.rn); (with_reducible refine (PN.out _ B5).mono ?_); rintro e w7 ⟨rfl, B7, g7⟩; have f63 : w7.cell? ⟨g, 63, none⟩ = some (.int .i64 i.op) := B7.cell 63; have f66 : w7.cell? ⟨g, 66, none⟩ = some (.int .i64 i.rd) := B7.cell 66) | (go_at_call 66; (with_reducible refine (PR.out _ _ _ ?_ ?_).mono ?_); (first | exact hs | exact hs1); (first | exact B7 | exact B5); rintro e w8 ⟨rfl, B8, g8⟩))
            all_goals (first | go_end0 | refine bodyPost_ret (results_none rfl _ _ _) rfl ?_)
            all_goals rw [HN.out]
            all_goals first | exact FI.out _ _ B8 (gtrans g7 g8) | exact FI.out _ _ B8 g8 | exact FI.out _ _ B7 g7 | exact FI.out _ _ B5 (World.grownBy.refl _ _)
end Go.Proofs.Ytpfhplhamnohjaa
