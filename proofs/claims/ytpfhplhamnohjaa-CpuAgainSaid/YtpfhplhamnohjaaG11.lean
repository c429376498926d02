/- Layer 20: a bus, whichever; an access of an instruction. Layer 20: coprocessor; what an instruction comes to. Layer 20: many. -/
import Derived.Test.YtpfhplhamnohjaaUKem
namespace Go.Proofs.Ytpfhplhamnohjaa
set_option maxHeartbeats 25600000
set_option maxRecDepth 100000
open Go.RowKit

structure Ans where
  val : Int
  fk : Int
  fl : Int
  fd : Int
def ansCells (x : Ans) : List Value := [.int .u32 x.val, .int .i64 x.fk, .int .i64 x.fl, .int .i64 x.fd]
/-- what a bus does, over plain data -/
structure BusM (M : Type) where
  acc : M → Int → Int → Int → Int → Bool → M × Ans
  mcr : M → Ins → Int → Bool → M × Int
  mrc : M → Ins → Bool → M × Int × Int
  fuel : M → Nat
def tupCells (i : Ins) : List Value := [.int .i64 i.crn, .int .i64 i.op1, .int .i64 i.crm, .int .i64 i.op2]
/-- behind a call of the bus: its state is m', the answer is given, nothing else is written -/
def BusPost {M : Type} (I : M → (Nat → Prop) → World → Prop) (O : Nat → Prop) (w : World) (m' : M) (v : Value) (e : Ending) (w' : World) : Prop :=
  e = .returned v ∧ ∃ O' : Nat → Prop, I m' O' w' ∧ GrownS w w' O ∧ ∀ j, O' j → O j ∨ w.heap.size ≤ j
structure BusLaw (T : TypeId) (V : Value) {M : Type} (I : M → (Nat → Prop) → World → Prop) (F : BusM M) (fA fC fR : Nat) : Prop where
  mA : ∀ w, Sem.run Try.prog (method 283 T V "Access") w = .ok (fA, V) w
  mC : ∀ w, Sem.run Try.prog (method 283 T V "Mcr") w = .ok (fC, V) w
  mR : ∀ w, Sem.run Try.prog (method 283 T V "Mrc") w = .ok (fR, V) w
  cA : ∀ x w, Sem.run Try.prog (callFunc fA #[V, x]) w = .ok (.enter fA #[V, x]) w
  cC : ∀ x y z w, Sem.run Try.prog (callFunc fC #[V, x, y, z]) w = .ok (.enter fC #[V, x, y, z]) w
  cR : ∀ x y w, Sem.run Try.prog (callFunc fR #[V, x, y]) w = .ok (.enter fR #[V, x, y]) w
  old : ∀ m O w j, I m O w → O j → j < w.heap.size
  keep : ∀ m O w w' (S : Nat → Prop), I m O w → GrownS w w' S → (∀ j, O j → ¬ S j) → I m O w'
  acc : ∀ m O w kind va n v p, (0 ≤ va ∧ va < 4294967296) → (0 ≤ v ∧ v < 4294967296) → (kind = 1 ∨ kind = 2 ∨ kind = 3) → (n = 1 ∨ n = 2 ∨ n = 4) → 0 < F.fuel m → I m O w → Calls Try.prog fA #[V, .agg #[.int .i64 kind, .int .u32 va, .int .i64 n, .int .u32 v, .bool p]] w (BusPost I O w (F.acc m kind va n v p).1 (.agg (ansCells (F.acc m kind va n v p).2).toArray))
  mcr : ∀ m O w i v u, (0 ≤ v ∧ v < 4294967296) → 0 < F.fuel m → I m O w → Calls Try.prog fC #[V, .agg (tupCells i).toArray, .int .u32 v, .bool u] w (BusPost I O w (F.mcr m i v u).1 (.int .i64 (F.mcr m i v u).2))
  mrc : ∀ m O w i u, 0 < F.fuel m → I m O w → Calls Try.prog fR #[V, .agg (tupCells i).toArray, .bool u] w (BusPost I O w (F.mrc m i u).1 (.tuple #[.int .u32 (F.mrc m i u).2.1, .int .i64 (F.mrc m i u).2.2]))
  val : ∀ m kind va n v p, 0 ≤ (F.acc m kind va n v p).2.val ∧ (F.acc m kind va n v p).2.val < 4294967296
  spent : ∀ m kind va n v p, F.fuel m ≤ F.fuel (F.acc m kind va n v p).1 + 1
  spentC : ∀ m i v u, F.fuel m ≤ F.fuel (F.mcr m i v u).1 + 1
  spentR : ∀ m i u, F.fuel m ≤ F.fuel (F.mrc m i u).1 + 1
  got : ∀ m i u, 0 ≤ (F.mrc m i u).2.1 ∧ (F.mrc m i u).2.1 < 4294967296
def Ans.ok (x : Ans) : Bool := x.fk == 0 && (x.fl == 0 && x.fd == 0)
def abortP (kind va n v : Int) (p : Bool) (x : Ans) : List PanicEntry := [{ v := .iface 111 (.agg #[.int .i64 kind, .int .u32 va, .int .i64 n, .int .u32 v, .bool p, .int .i64 x.fk, .int .i64 x.fl, .int .i64 x.fd]), recovered := false }]
/-- behind an access of an instruction -/
def AccPost {M : Type} (I : M → (Nat → Prop) → World → Prop) (O : Nat → Prop) (W : World) (g : Nat) (t : TypeId) (cs : List Value) (m' : M) (x : Ans) (pe : List PanicEntry) (e : Ending) (w' : World) : Prop :=
  (if x.ok = true then e = .returned (.int .u32 x.val) else e = .panicked pe) ∧ Blok w' g t cs ∧ ∃ O' : Nat → Prop, I m' O' w' ∧ GrownS W w' O ∧ ∀ j, O' j → O j ∨ W.heap.size ≤ j
theorem grownS_of {w w' : World} (h : Below w.heap.size w w') (S : Nat → Prop) : GrownS w w' S := GrownS.ofBelow h
theorem bus_is {T : TypeId} {V : Value} {M : Type} {I : M → (Nat → Prop) → World → Prop} {F : BusM M} {fA fC fR : Nat} (L : BusLaw T V I F fA fC fR) (m : M) (O : Nat → Prop)
    (o s : Sta) (at_ : Int) (i : Ins) (wt : Bool) (g : Nat) (t : TypeId) (kind va n v : Int) (ho : OkS o) (hva : 0 ≤ va ∧ va < 4294967296) (hv : 0 ≤ v ∧ v < 4294967296) (hk : kind = 1 ∨ kind = 2 ∨ kind = 3) (hn : n = 1 ∨ n = 2 ∨ n = 4)
    (W : World) (h : Blok W g t (workCells o s (.iface T V) at_ i wt)) (hI : I m O W) (hg : ¬ O g) (hf : 0 < F.fuel m) :
    Calls Try.prog 70 #[.pointer (some ⟨g, 0, none⟩), .int .i64 kind, .int .u32 va, .int .i64 n, .int .u32 v] W
      (AccPost I O W g t (workCells o s (.iface T V) at_ i wt) (F.acc m kind va n v (!userB o)).1 (F.acc m kind va n v (!userB o)).2 (abortP kind va n v (!userB o) (F.acc m kind va n v (!userB o)).2)) := by
  have hlt := h.lt
  have US := Lib.hid (user_is o s (.iface T V) at_ i wt g t ho W h)
  generalize userB o = u at US ⊢
  have hO := Lib.hid (fun j => L.old m O W j hI)
  have mA := L.mA
  have cA := L.cA
  have AC := Lib.hid (fun w (hi : I m O w) => L.acc m O w kind va n v (!u) hva hv hk hn hf hi)
  have KP := Lib.hid L.keep
  have OL := Lib.hid L.old
  clear hva hv hk hn hf
  generalize (F.acc m kind va n v (!u)).1 = m' at AC ⊢
  generalize (F.acc m kind va n v (!u)).2 = x at AC ⊢
  have hx : (ansCells x).toArray = #[.int .u32 x.val, .int .i64 x.fk, .int .i64 x.fl, .int .i64 x.fd] := rfl
  rw [hx] at AC
  clear hx
  go_enter Try.func70, Try.ntmps70
  go_upto_region 2 with (go_at_call 74; (with_reducible refine (US.out).mono ?_); rintro e w1 ⟨rfl, rfl⟩)
  have hY := Blok.new W 50 [.int .i64 kind, .int .u32 va, .int .i64 n, .int .u32 v, .bool (!u)]
  change Blok (W.alloc (.cells #[.int .i64 kind, .int .u32 va, .int .i64 n, .int .u32 v, .bool (!u)] 50)) W.heap.size _ _ at hY
  have b1 : Below W.heap.size W (W.alloc (.cells #[.int .i64 kind, .int .u32 va, .int .i64 n, .int .u32 v, .bool (!u)] 50)) := (Below.refl _ _).alloc (Nat.le_refl _) _
  have hW := h.alloc (.cells #[.int .i64 kind, .int .u32 va, .int .i64 n, .int .u32 v, .bool (!u)] 50)
  generalize W.alloc (.cells #[.int .i64 kind, .int .u32 va, .int .i64 n, .int .u32 v, .bool (!u)] 50) = w1 at hY b1 hW ⊢
  have hy : ¬ O W.heap.size := fun q => Nat.lt_irrefl _ (hO.out _ q)
  have hyl := hY.lt
  have hI1 : ∀ w', Below w1.heap.size w1 w' → I m O w' := fun w' k => KP.out m O W w' (fun _ => False) hI (GrownS.ofBelow (bthen b1 k)) (fun _ _ q => q)
  have c60 : ∀ w', GrownS w1 w' O → w'.cell? ⟨g, 60, none⟩ = some (.iface T V) := fun w' k => (hW.gs k hg).cell 60
  have y0 : ∀ w', GrownS w1 w' O → w'.cell? ⟨W.heap.size, 0, none⟩ = some (.int .i64 kind) := fun w' k => (hY.gs k hy).cell 0
  have y1 : ∀ w', GrownS w1 w' O → w'.cell? ⟨W.heap.size, 1, none⟩ = some (.int .u32 va) := fun w' k => (hY.gs k hy).cell 1
  have y2 : ∀ w', GrownS w1 w' O → w'.cell? ⟨W.heap.size, 2, none⟩ = some (.int .i64 n) := fun w' k => (hY.gs k hy).cell 2
  have y3 : ∀ w', GrownS w1 w' O → w'.cell? ⟨W.heap.size, 3, none⟩ = some (.int .u32 v) := fun w' k => (hY.gs k hy).cell 3
  have y4 : ∀ w', GrownS w1 w' O → w'.cell? ⟨W.heap.size, 4, none⟩ = some (.bool (!u)) := fun w' k => (hY.gs k hy).cell 4
  go_cut [12] (fun s12 wx => ∃ (y : Nat) (O' : Nat → Prop), s12 = .pointer (some ⟨y, 0, none⟩) ∧ Blok wx y 90 (ansCells x) ∧ I m' O' wx ∧ GrownS w1 wx O ∧ (∀ j, O' j → O j ∨ w1.heap.size ≤ j) ∧ ¬ O' y)
  case first =>
    refine wp_region_held_drew (S := fun w' => GrownS w1 w' O) (by kernel_rfl) (GrownS.drew _ _) (fun hHeld => ?_)
    (refine take_at (i := 0) (d := some 21) (v := ?_) rfl (by rfl) (by kernel_rfl) (by kernel_rfl) (by kernel_rfl) (fun _ _ _ h => h) (Or.inl ⟨by rfl, ?_⟩) (by with_reducible assumption) ?_; rotate_left 1; (· ((intro w hSw); (try dsimp only at hSw); first | (go_simp; done) | (go_simp; with_reducible rfl))); (try simp only [Act.put, List.setIfInBounds_toArray, List.set_cons_zero, List.set_cons_succ]))
    (refine take_at (i := 1) (d := some 22) (v := ?_) rfl (by rfl) (by kernel_rfl) (by kernel_rfl) (by kernel_rfl) (fun _ _ _ h => h) (Or.inl ⟨by rfl, ?_⟩) (by with_reducible assumption) ?_; rotate_left 1; (· ((intro w hSw); (try dsimp only at hSw); first | (go_simp; done) | (go_simp; with_reducible rfl))); (try simp only [Act.put, List.setIfInBounds_toArray, List.set_cons_zero, List.set_cons_succ]))
    (refine take_at (i := 2) (d := some 23) (v := ?_) rfl (by rfl) (by kernel_rfl) (by kernel_rfl) (by kernel_rfl) (fun _ _ _ h => h) (Or.inl ⟨by rfl, ?_⟩) (by with_reducible assumption) ?_; rotate_left 1; (· ((intro w hSw); (try dsimp only at hSw); first | (go_simp; done) | (go_simp; with_reducible rfl))); (try simp only [Act.put, List.setIfInBounds_toArray, List.set_cons_zero, List.set_cons_succ]))
    (refine take_at (i := 3) (d := some 24) (v := ?_) rfl (by rfl) (by kernel_rfl) (by kernel_rfl) (by kernel_rfl) (fun _ _ _ h => h) (Or.inl ⟨by rfl, ?_⟩) (by with_reducible assumption) ?_; rotate_left 1; (· ((intro w hSw); (try dsimp only at hSw); first | (go_simp; done) | (go_simp; with_reducible rfl))); (try simp only [Act.put, List.setIfInBounds_toArray, List.set_cons_zero, List.set_cons_succ]))
    (refine take_at (i := 4) (d := some 25) (v := ?_) rfl (by rfl) (by kernel_rfl) (by kernel_rfl) (by kernel_rfl) (fun _ _ _ h => h) (Or.inl ⟨by rfl, ?_⟩) (by with_reducible assumption) ?_; rotate_left 1; (· ((intro w hSw); (try dsimp only at hSw); first | (go_simp; done) | (go_simp; with_reducible rfl))); (try simp only [Act.put, List.setIfInBounds_toArray, List.set_cons_zero, List.set_cons_succ]))
    refine wpAnyH_ready (rs := [5, 6]) (by kernel_rfl) (by simp) ?_
    refine AllReadyH.cons rfl (fun K hK => ?_) (AllReadyH.cons rfl (fun K hK => ?_) AllReadyH.nil)
    · go_simp
      refine (AC.out _ (hI1 _ (bdrew (Below.refl _ _)))).mono ?_
      rintro e w2 ⟨rfl, O', hI2, g2, k2⟩
      have g2' : GrownS w1 w2 O := (GrownS.drew w1 O).trans g2
      have k2' : ∀ j, O' j → O j ∨ w1.heap.size ≤ j := k2
      refine hK.out _ _ g2' (fun hHeld => ?_)
      clear hK K
      (try simp only [Act.put, List.setIfInBounds_toArray, List.set_cons_zero, List.set_cons_succ])
      refine wpAnyH_ready (rs := [6]) (by kernel_rfl) (by simp) ?_
      refine AllReadyH.cons rfl (fun K hK => ?_) AllReadyH.nil
      go_simp
      refine hK.out _ _ (g2'.alloc _) (fun hHeld => ?_)
      clear hK K
      (try simp only [Act.put, List.setIfInBounds_toArray, List.set_cons_zero, List.set_cons_succ])
      refine wpAnyH_ready (rs := [7]) (by kernel_rfl) (by simp) ?_
      refine AllReadyH.cons rfl (fun K hK => ?_) AllReadyH.nil
      go_simp
      refine hK.out _ _ (g2'.alloc _) (fun hHeld => ?_)
      clear hK K
      (try simp only [Act.put, List.setIfInBounds_toArray, List.set_cons_zero, List.set_cons_succ])
      refine wpAnyH_done (by kernel_rfl) ?_ _
      go_wp2_with fail
      go_meet
      exact ⟨w2.heap.size, O', rfl, Blok.new w2 _ (ansCells x), KP.out m' O' w2 _ (fun _ => False) hI2 (GrownS.ofBelow ((Below.refl _ _).alloc (Nat.le_refl _) _)) (fun _ _ q => q), g2'.alloc _, k2', fun q => Nat.lt_irrefl _ (OL.out m' O' w2 _ hI2 q)⟩
    · go_simp
      have hZ : Blok (World.drew (w1.alloc (.cells #[.int .u32 0, .int .i64 0, .int .i64 0, .int .i64 0] 90))) w1.heap.size 90 [.int .u32 0, .int .i64 0, .int .i64 0, .int .i64 0] := (Blok.new w1 90 [.int .u32 0, .int .i64 0, .int .i64 0, .int .i64 0]).drewN 1
      have b3 : Below w1.heap.size w1 (World.drew (w1.alloc (.cells #[.int .u32 0, .int .i64 0, .int .i64 0, .int .i64 0] 90))) := bdrew ((Below.refl _ _).alloc (Nat.le_refl _) _)
      generalize World.drew (w1.alloc (.cells #[.int .u32 0, .int .i64 0, .int .i64 0, .int .i64 0] 90)) = w3 at hZ b3 ⊢
      refine hK.out _ _ (GrownS.ofBelow b3) (fun hHeld => ?_)
      clear hK K
      (try simp only [Act.put, List.setIfInBounds_toArray, List.set_cons_zero, List.set_cons_succ])
      refine wpAnyH_ready (rs := [5]) (by kernel_rfl) (by simp) ?_
      refine AllReadyH.cons rfl (fun K hK => ?_) AllReadyH.nil
      go_simp
      refine (AC.out _ (hI1 _ b3)).mono ?_
      rintro e w2 ⟨rfl, O', hI2, g2, k2⟩
      have hz : ¬ O w1.heap.size := fun q => by have := hO.out _ q; have := b1.size; omega
      have hZ2 := hZ.gs g2 hz
      have g2' : GrownS w1 w2 O := (GrownS.ofBelow b3).trans g2
      have k2' : ∀ j, O' j → O j ∨ w1.heap.size ≤ j := fun j q => (k2 j q).imp id (fun r => Nat.le_trans b3.size r)
      have hz' : ¬ O' w1.heap.size := fun q => (k2 _ q).elim hz (fun r => by have := hZ.lt; omega)
      have q0 := hZ2.cell 0
      have q1 := hZ2.cell 1
      have q2 := hZ2.cell 2
      have q3 := hZ2.cell 3
      have r0 := hZ2.frozen 0
      have r1 := hZ2.frozen 1
      have r2 := hZ2.frozen 2
      have r3 := hZ2.frozen 3
      simp only [List.getElem?_cons_zero, List.getElem?_cons_succ] at q0 q1 q2 q3
      refine hK.out _ _ g2' (fun hHeld => ?_)
      clear hK K
      (try simp only [Act.put, List.setIfInBounds_toArray, List.set_cons_zero, List.set_cons_succ])
      refine wpAnyH_ready (rs := [7]) (by kernel_rfl) (by simp) ?_
      refine AllReadyH.cons rfl (fun K hK => ?_) AllReadyH.nil
      go_simp
      have hZ4 := (((hZ2.set_ 0 (.int .u32 x.val)).set_ 1 (.int .i64 x.fk)).set_ 2 (.int .i64 x.fl)).set_ 3 (.int .i64 x.fd)
      have g4 := gtrans (gtrans (gtrans (grown_one w2 w1.heap.size 0 (.int .u32 x.val)) (grown_one _ w1.heap.size 1 (.int .i64 x.fk))) (grown_one _ w1.heap.size 2 (.int .i64 x.fl))) (grown_one _ w1.heap.size 3 (.int .i64 x.fd))
      have g5 : GrownS w1 _ O := g2'.new g4 (Nat.le_refl _)
      have hI4 := KP.out m' O' w2 _ (fun j => j = w1.heap.size) hI2 (GrownS.ofOne g4 rfl) (fun j q r => hz' (r ▸ q))
      refine hK.out _ _ g5 (fun hHeld => ?_)
      clear hK K
      (try simp only [Act.put, List.setIfInBounds_toArray, List.set_cons_zero, List.set_cons_succ])
      refine wpAnyH_done (by kernel_rfl) ?_ _
      go_wp2_with fail
      go_meet
      exact ⟨w1.heap.size, O', rfl, hZ4, hI4, g5, k2', hz'⟩
  case rest =>
    obtain ⟨y, O', rfl, hA, hI2, g2, k2, hy2⟩ := hcut
    have a0 := hA.cell 0
    have a1 := hA.cell 1
    have a2 := hA.cell 2
    have a3 := hA.cell 3
    have hY2 := hY.gs g2 hy
    have e0 := hY2.cell 0
    have e1 := hY2.cell 1
    have e2 := hY2.cell 2
    have e3 := hY2.cell 3
    have e4 := hY2.cell 4
    simp only [ansCells, List.getElem?_cons_zero, List.getElem?_cons_succ] at a0 a1 a2 a3 e0 e1 e2 e3 e4
    have hW2 := hW.gs g2 hg
    have g3 : GrownS W wc O := (GrownS.ofBelow b1).trans g2
    have k3 : ∀ j, O' j → O j ∨ W.heap.size ≤ j := fun j q => (k2 j q).imp id (fun r => Nat.le_trans b1.size r)
    clear c60 y0 y1 y2 y3 y4
    go_wp2
    · go_ret
      refine ⟨?_, hW2, O', hI2, g3, k3⟩
      rw [if_pos (by simp [Ans.ok, *])]
      rfl
    all_goals
      refine And.intro rfl ⟨?_, hW2, O', hI2, g3, k3⟩
      rw [if_neg (by simp [Ans.ok, *])]
      simp [abortP, *]
end Go.Proofs.Ytpfhplhamnohjaa
namespace Go.Proofs.Ytpfhplhamnohjaa
set_option maxHeartbeats 25600000
set_option maxRecDepth 100000
open Go.RowKit

inductive Out where
  | ok (s : Sta)
  | un
  | ab (pe : List PanicEntry)
def Out.ending : Out → Ending
  | .ok _ => .returned (.tuple #[])
  | .un => .panicked undefP
  | .ab pe => .panicked pe
def Out.sta (s : Sta) : Out → Sta
  | .ok s' => s'
  | _ => s
def outOf : Option Sta → Out
  | some s => .ok s
  | none => .un
/-- behind an instruction's method: the state that it leaves, the bus' state, nothing else written -/
structure DoneB {M : Type} (I : M → (Nat → Prop) → World → Prop) (O : Nat → Prop) (W : World) (g : Nat) (t : TypeId) (o s : Sta) (b : Value) (at_ : Int) (i : Ins) (wt : Bool) (m' : M) (r : Out) (e : Ending) (w' : World) : Prop where
  e : e = r.ending
  blk : Blok w' g t (workCells o (r.sta s) b at_ i wt)
  bus : ∃ O' : Nat → Prop, I m' O' w' ∧ GrownS W w' (fun j => j = g ∨ O j) ∧ ∀ j, O' j → O j ∨ W.heap.size ≤ j
theorem doneB_of {T : TypeId} {V : Value} {M : Type} {I : M → (Nat → Prop) → World → Prop} {F : BusM M} {fA fC fR : Nat} (L : BusLaw T V I F fA fC fR) {m : M} {O : Nat → Prop} {W : World} {g : Nat} {t : TypeId} {o s : Sta} {b : Value} {at_ : Int} {i : Ins} {wt : Bool} {r : Option Sta} {e : Ending} {w' : World}
    (hI : I m O W) (hg : ¬ O g) (h : Done W g t o s b at_ i wt r e w') : DoneB I O W g t o s b at_ i wt m (outOf r) e w' := by
  cases r with
  | some s' => exact ⟨h.1, h.2.1, O, L.keep m O W w' (fun j => j = g) hI (GrownS.ofOne h.2.2 rfl) (fun j hj e => hg (e ▸ hj)), GrownS.ofOne h.2.2 (Or.inl rfl), fun j hj => Or.inl hj⟩
  | none => exact ⟨h.1, h.2.1, O, L.keep m O W w' (fun j => j = g) hI (GrownS.ofOne h.2.2 rfl) (fun j hj e => hg (e ▸ hj)), GrownS.ofOne h.2.2 (Or.inl rfl), fun j hj => Or.inl hj⟩
theorem grownS_mono {w w' : World} {S S' : Nat → Prop} (h : GrownS w w' S) (k : ∀ j, S j → S' j) : GrownS w w' S' := ⟨h.os, h.tape, h.output, h.size, fun j hj hn => h.block j hj (fun q => hn (k j q))⟩
theorem keepS_tup {w : World} {g : Nat} {t : TypeId} {o s : Sta} {b : Value} {at_ : Int} {i : Ins} {wt : Bool} (h : Blok w g t (workCells o s b at_ i wt)) : w.cell? ⟨g, 78, none⟩ = some (.int .i64 i.crn) ∧ w.cell? ⟨g, 79, none⟩ = some (.int .i64 i.op1) ∧ w.cell? ⟨g, 80, none⟩ = some (.int .i64 i.crm) ∧ w.cell? ⟨g, 81, none⟩ = some (.int .i64 i.op2) :=
  ⟨h.cell 78, h.cell 79, h.cell 80, h.cell 81⟩
theorem mcr_done {T : TypeId} {V : Value} {M : Type} {I : M → (Nat → Prop) → World → Prop} {F : BusM M} {fA fC fR : Nat} (L : BusLaw T V I F fA fC fR) (m : M) (O : Nat → Prop)
    (o s : Sta) (at_ : Int) (i : Ins) (wt : Bool) (g : Nat) (t : TypeId) (ho : OkS o) (hi : InsOk i) (hop : i.op = 49) (W : World) (h : Blok W g t (workCells o s (.iface T V) at_ i wt)) (hI : I m O W) (hg : ¬ O g) (hf : 0 < F.fuel m) :
    Calls Try.prog 56 #[.pointer (some ⟨g, 0, none⟩)] W
      (DoneB I O W g t o s (.iface T V) at_ i wt (F.mcr m i (getI o at_ i.rd) (userB o)).1 (if (F.mcr m i (getI o at_ i.rd) (userB o)).2 = 0 then .ok s else .un)) := by
  have hlt := h.lt
  have c60 : ∀ w', GrownS W w' O → w'.cell? ⟨g, 60, none⟩ = some (.iface T V) := fun w' k => (h.gs k hg).cell 60
  have c63 : W.cell? ⟨g, 63, none⟩ = some (.int .i64 i.op) := h.cell 63
  have c66 : ∀ w', GrownS W w' O → w'.cell? ⟨g, 66, none⟩ = some (.int .i64 i.rd) := fun w' k => (h.gs k hg).cell 66
  have c78 : ∀ w', GrownS W w' O → w'.cell? ⟨g, 78, none⟩ = some (.int .i64 i.crn) := fun w' k => (h.gs k hg).cell 78
  have c79 : ∀ w', GrownS W w' O → w'.cell? ⟨g, 79, none⟩ = some (.int .i64 i.op1) := fun w' k => (h.gs k hg).cell 79
  have c80 : ∀ w', GrownS W w' O → w'.cell? ⟨g, 80, none⟩ = some (.int .i64 i.crm) := fun w' k => (h.gs k hg).cell 80
  have c81 : ∀ w', GrownS W w' O → w'.cell? ⟨g, 81, none⟩ = some (.int .i64 i.op2) := fun w' k => (h.gs k hg).cell 81
  have GD := Lib.hid (fun w' (k : GrownS W w' O) => get_is' o s (.iface T V) at_ i wt g t i.rd ho hi.rd w' (h.gs k hg))
  have US := Lib.hid (fun w' (k : GrownS W w' O) => user_is o s (.iface T V) at_ i wt g t ho w' (h.gs k hg))
  have ug := getI_u o at_ i.rd ho hi.rd.1
  have mC := L.mC
  have cC := L.cC
  have hI1 : ∀ w', Below W.heap.size W w' → I m O w' := fun w' k => L.keep m O W w' (fun _ => False) hI (GrownS.ofBelow k) (fun _ _ q => q)
  generalize getI o at_ i.rd = gv at GD ug ⊢
  generalize userB o = u at US ⊢
  have MC := Lib.hid (fun w' (k : Below W.heap.size W w') => L.mcr m O w' i gv u ug hf (hI1 w' k))
  clear hI1 ug hf
  have hx : (tupCells i).toArray = #[.int .i64 i.crn, .int .i64 i.op1, .int .i64 i.crm, .int .i64 i.op2] := rfl
  rw [hx] at MC
  clear hx
  generalize F.mcr m i gv u = mr at MC ⊢
  obtain ⟨m', e'⟩ := mr
  dsimp only at MC ⊢
  have H := Lib.hid h
  have HG := Lib.hid hg
  rw [hop] at c63
  clear h hg hop
  obtain ⟨r, hr⟩ : ∃ r, r = (if e' = 0 then Out.ok s else .un) := ⟨_, rfl⟩
  rw [← hr]
  have HR := Lib.hid hr
  clear hr
  go_enter Try.func56, Try.ntmps56
  go_upto_region 1 with fail
  go_region_held3 (fun w' => GrownS W w' O)
    (first | assumption | exact GrownS.drewN _ _ _ | exact GrownS.drew _ _)
    (first | (go_at_call 64; (with_reducible refine (GD.out _ ?_).mono ?_); (with_reducible assumption); rintro e w1 ⟨rfl, k1, rfl⟩) | (go_at_call 74; (with_reducible refine (US.out _ ?_).mono ?_); (with_reducible assumption); rintro e w2 ⟨rfl, rfl⟩) | ((with_reducible refine (MC.out _ ?_).mono ?_); (first | exact bdrew (Below.refl _ _) | exact bdrewN (Below.refl _ _) _ | exact bdrewN (bdrew (Below.refl _ _)) _); rintro e w4 ⟨rfl, O', hI4, g4, k4⟩; have g5 : GrownS W w4 O := (by assumption : GrownS W _ O).trans g4))
  have k5 : ∀ j, O' j → O j ∨ W.heap.size ≤ j := k4
  clear c60 c66 c78 c79 c80 c81
  by_cases he : e' = 0
  · have z : (e' != 0) = false := by simp [he]
    have HN := Lib.hid (show r = Out.ok s by rw [HR.out, if_pos he])
    clear he
    go_wp2
    first | go_end0 | refine bodyPost_ret (results_none rfl _ _ _) rfl ?_
    rw [HN.out]
    exact ⟨rfl, H.out.gs g5 HG.out, O', hI4, grownS_mono g5 (fun _ q => Or.inr q), k5⟩
  · have z : (e' != 0) = true := by simp [he]
    have HN := Lib.hid (show r = Out.un by rw [HR.out, if_neg he])
    clear he
    go_wp2
    refine And.intro rfl ?_
    rw [HN.out]
    exact ⟨rfl, H.out.gs g5 HG.out, O', hI4, grownS_mono g5 (fun _ q => Or.inr q), k5⟩
theorem mrc_done {T : TypeId} {V : Value} {M : Type} {I : M → (Nat → Prop) → World → Prop} {F : BusM M} {fA fC fR : Nat} (L : BusLaw T V I F fA fC fR) (m : M) (O : Nat → Prop)
    (o s : Sta) (at_ : Int) (i : Ins) (wt : Bool) (g : Nat) (t : TypeId) (ho : OkS o) (hs : OkS s) (hi : InsOk i) (hop : i.op = 50) (W : World) (h : Blok W g t (workCells o s (.iface T V) at_ i wt)) (hI : I m O W) (hg : ¬ O g) (hf : 0 < F.fuel m) :
    Calls Try.prog 56 #[.pointer (some ⟨g, 0, none⟩)] W
      (DoneB I O W g t o s (.iface T V) at_ i wt (F.mrc m i (userB o)).1 (if (F.mrc m i (userB o)).2.2 = 0 then .ok (putS s i.rd (F.mrc m i (userB o)).2.1) else .un)) := by
  have hlt := h.lt
  have c60 : ∀ w', GrownS W w' O → w'.cell? ⟨g, 60, none⟩ = some (.iface T V) := fun w' k => (h.gs k hg).cell 60
  have c63 : W.cell? ⟨g, 63, none⟩ = some (.int .i64 i.op) := h.cell 63
  have c66 : ∀ w', GrownS W w' O → w'.cell? ⟨g, 66, none⟩ = some (.int .i64 i.rd) := fun w' k => (h.gs k hg).cell 66
  have c78 : ∀ w', GrownS W w' O → w'.cell? ⟨g, 78, none⟩ = some (.int .i64 i.crn) := fun w' k => (h.gs k hg).cell 78
  have c79 : ∀ w', GrownS W w' O → w'.cell? ⟨g, 79, none⟩ = some (.int .i64 i.op1) := fun w' k => (h.gs k hg).cell 79
  have c80 : ∀ w', GrownS W w' O → w'.cell? ⟨g, 80, none⟩ = some (.int .i64 i.crm) := fun w' k => (h.gs k hg).cell 80
  have c81 : ∀ w', GrownS W w' O → w'.cell? ⟨g, 81, none⟩ = some (.int .i64 i.op2) := fun w' k => (h.gs k hg).cell 81
  have PT := Lib.hid (fun v w' (k : Blok w' g t (workCells o s (.iface T V) at_ i wt)) => put_is o s (.iface T V) at_ i wt g t i.rd v hs hi.rd w' k)
  have US := Lib.hid (fun w' (k : GrownS W w' O) => user_is o s (.iface T V) at_ i wt g t ho w' (h.gs k hg))
  have mC := L.mR
  have cC := L.cR
  have hI1 : ∀ w', Below W.heap.size W w' → I m O w' := fun w' k => L.keep m O W w' (fun _ => False) hI (GrownS.ofBelow k) (fun _ _ q => q)
  generalize userB o = u at US ⊢
  have MC := Lib.hid (fun w' (k : Below W.heap.size W w') => L.mrc m O w' i u hf (hI1 w' k))
  clear hf
  have ug := L.got m i u
  clear hI1
  have hx : (tupCells i).toArray = #[.int .i64 i.crn, .int .i64 i.op1, .int .i64 i.crm, .int .i64 i.op2] := rfl
  rw [hx] at MC
  clear hx
  generalize F.mrc m i u = mr at MC ug ⊢
  obtain ⟨m', gv, e'⟩ := mr
  dsimp only at MC ug ⊢
  have H := Lib.hid h
  have HG := Lib.hid hg
  rw [hop] at c63
  clear h hg hop
  obtain ⟨r, hr⟩ : ∃ r, r = (if e' = 0 then Out.ok (putS s i.rd gv) else .un) := ⟨_, rfl⟩
  rw [← hr]
  have HR := Lib.hid hr
  clear hr
  go_enter Try.func56, Try.ntmps56
  go_upto_region 3 with fail
  go_region_held3 (fun w' => GrownS W w' O)
    (first | assumption | exact GrownS.drewN _ _ _ | exact GrownS.drew _ _)
    (first | (go_at_call 74; (with_reducible refine (US.out _ ?_).mono ?_); (with_reducible assumption); rintro e w2 ⟨rfl, rfl⟩) | ((with_reducible refine (MC.out _ ?_).mono ?_); (first | exact bdrew (Below.refl _ _) | exact bdrewN (Below.refl _ _) _ | exact bdrewN (bdrew (Below.refl _ _)) _); rintro e w4 ⟨rfl, O', hI4, g4, k4⟩; have g5 : GrownS W w4 O := (by assumption : GrownS W _ O).trans g4))
  have k5 : ∀ j, O' j → O j ∨ W.heap.size ≤ j := k4
  clear c60 c66 c78 c79 c80 c81
  by_cases he : e' = 0
  · have z : (e' != 0) = false := by simp [he]
    have HN := Lib.hid (show r = Out.ok (putS s i.rd gv) by rw [HR.out, if_pos he])
    clear he
    have hW4 := H.out.gs g5 HG.out
    have e66 : w4.cell? ⟨g, 66, none⟩ = some (.int .i64 i.rd) := hW4.cell 66
    go_wp2_with (go_at_call 66; (with_reducible refine (PT.out _ _ hW4).mono ?_); rintro e w5 ⟨rfl, B5, g6⟩)
    first | go_end0 | refine bodyPost_ret (results_none rfl _ _ _) rfl ?_
    rw [HN.out]
    have hn : ∀ j, O' j → ¬ j = g := fun j q e => (k5 j q).elim (fun a => HG.out (e ▸ a)) (fun a => by have := H.out.lt; omega)
    exact ⟨rfl, B5, O', L.keep m' O' w4 _ (fun j => j = g) hI4 (GrownS.ofOne g6 rfl) hn, (grownS_mono g5 (fun _ q => Or.inr q)).trans (GrownS.ofOne g6 (Or.inl rfl)), k5⟩
  · have z : (e' != 0) = true := by simp [he]
    have HN := Lib.hid (show r = Out.un by rw [HR.out, if_neg he])
    clear he
    go_wp2
    refine And.intro rfl ?_
    rw [HN.out]
    exact ⟨rfl, H.out.gs g5 HG.out, O', hI4, grownS_mono g5 (fun _ q => Or.inr q), k5⟩
end Go.Proofs.Ytpfhplhamnohjaa
namespace Go.Proofs.Ytpfhplhamnohjaa
open Go.RowKit

def bt16 (l : Int) (k : Nat) : Int := bits .and .u16 (l / 2 ^ k) 1
theorem bt16_u (l : Int) (k : Nat) : 0 ≤ bt16 l k ∧ bt16 l k < 65536 := by
  unfold bt16 bits
  simp only [IntKind.wrap, IntKind.bits, IntKind.signed]
  simp
  omega
def cntI (l : Int) : Nat → Int
  | 0 => 0
  | k + 1 => (cntI l k + bt16 l k) % 4294967296
theorem cntI_u (l : Int) (k : Nat) : 0 ≤ cntI l k ∧ cntI l k < 4294967296 := by
  cases k with
  | zero => simp [cntI]
  | succ k => unfold cntI; omega
theorem bt16_01 (l : Int) (k : Nat) : bt16 l k = 0 ∨ bt16 l k = 1 := by
  have h : bt16 l k < 2 := by
    unfold bt16 bits
    simp [IntKind.wrap, IntKind.bits, IntKind.signed]
    have e2 : ∀ X : BitVec 16, ((X &&& 1#16).toNat : Int) % 65536 < 2 := fun X => by
      have h2 : (X &&& 1#16).toNat ≤ 1 := by rw [BitVec.toNat_and]; exact Nat.and_le_right
      omega
    exact e2 _
  have := bt16_u l k
  omega
def manyA0 (o : Sta) (at_ : Int) (i : Ins) : Int := if i.up then getI o at_ i.rn else (getI o at_ i.rn - 4 * cntI i.list 16 % 4294967296) % 4294967296
def manyE (o : Sta) (at_ : Int) (i : Ins) : Int := if i.up then (getI o at_ i.rn + 4 * cntI i.list 16 % 4294967296) % 4294967296 else (getI o at_ i.rn - 4 * cntI i.list 16 % 4294967296) % 4294967296
def manyAt (o : Sta) (at_ : Int) (i : Ins) : Int := if i.pre == i.up then (manyA0 o at_ i + 4) % 4294967296 else manyA0 o at_ i
/-- one register of a load or a store of many: the bus, the address, what has been loaded; or how it gives up -/
def mstep {M : Type} (F : BusM M) (o : Sta) (at_ : Int) (i : Ins) (k : Nat) (st : M × Int × (Nat → Int)) : Except (M × List PanicEntry) (M × Int × (Nat → Int)) :=
  if bt16 i.list k = 0 then .ok st
  else
    (let r := F.acc st.1 (if i.op = 39 then 2 else 3) st.2.1 4 (if i.op = 39 then 0 else getI o at_ k) (!userB o)
     if r.2.ok = true then .ok (r.1, (st.2.1 + 4) % 4294967296, if i.op = 39 then set st.2.2 k r.2.val else st.2.2)
     else .error (r.1, abortP (if i.op = 39 then 2 else 3) st.2.1 4 (if i.op = 39 then 0 else getI o at_ k) (!userB o) r.2))
def mrun {M : Type} (F : BusM M) (m : M) (o : Sta) (at_ : Int) (i : Ins) : Nat → Except (M × List PanicEntry) (M × Int × (Nat → Int))
  | 0 => .ok (m, manyAt o at_ i, fun _ => 0)
  | k + 1 => match mrun F m o at_ i k with
    | .error e => .error e
    | .ok st => mstep F o at_ i k st
theorem mrun_err {M : Type} (F : BusM M) (m : M) (o : Sta) (at_ : Int) (i : Ins) (k : Nat) (e : M × List PanicEntry) (h : mrun F m o at_ i k = .error e) : ∀ d, mrun F m o at_ i (k + d) = .error e
  | 0 => h
  | d + 1 => by
    have := mrun_err F m o at_ i k e h d
    show mrun F m o at_ i (k + d + 1) = _
    unfold mrun
    rw [this]
theorem mrun_fuel {T : TypeId} {V : Value} {M : Type} {I : M → (Nat → Prop) → World → Prop} {F : BusM M} {fA fC fR : Nat} (L : BusLaw T V I F fA fC fR) (m : M) (o : Sta) (at_ : Int) (i : Ins) : ∀ k st, mrun F m o at_ i k = .ok st → F.fuel m ≤ F.fuel st.1 + k
  | 0, st, h => by
    have e : (m, manyAt o at_ i, fun _ => 0) = st := Except.ok.inj h
    rw [← e]; exact Nat.le_refl _
  | k + 1, st, h => by
    unfold mrun at h
    cases q : mrun F m o at_ i k with
    | error e => rw [q] at h; cases h
    | ok s1 =>
      rw [q] at h
      have ih := mrun_fuel L m o at_ i k s1 q
      dsimp only at h
      unfold mstep at h
      by_cases hz : bt16 i.list k = 0
      · rw [if_pos hz] at h
        have e := Except.ok.inj h
        rw [← e]; omega
      rw [if_neg hz] at h
      dsimp only at h
      by_cases ho : (F.acc s1.1 (if i.op = 39 then 2 else 3) s1.2.1 4 (if i.op = 39 then 0 else getI o at_ k) (!userB o)).2.ok = true
      · rw [if_pos ho] at h
        have e := Except.ok.inj h
        rw [← e]
        have := L.spent s1.1 (if i.op = 39 then 2 else 3) s1.2.1 4 (if i.op = 39 then 0 else getI o at_ k) (!userB o)
        dsimp only
        omega
      · rw [if_neg ho] at h; cases h
def manyW (o s : Sta) (at_ : Int) (i : Ins) : Sta := if i.write then putS s i.rn (manyE o at_ i) else s
def mputs (s : Sta) (i : Ins) (vs : Nat → Int) : Nat → Sta
  | 0 => s
  | k + 1 => if i.op = 39 ∧ bt16 i.list k = 1 then putS (mputs s i vs k) k (vs k) else mputs s i vs k
def manyO {M : Type} (F : BusM M) (m : M) (o s : Sta) (at_ : Int) (i : Ins) : M × Out :=
  match mrun F m o at_ i 16 with
  | .error e => (e.1, .ab e.2)
  | .ok st => (st.1, .ok (mputs (manyW o s at_ i) i st.2.2 16))
def valCells (vs : Nat → Int) : List Value := (List.range 16).map fun j => .int .u32 (vs j)
theorem valCells_get (vs : Nat → Int) (k : Nat) (h : k < 16) : (valCells vs)[k]? = some (.int .u32 (vs k)) := by
  unfold valCells
  rw [List.getElem?_map, List.getElem?_range h]
  rfl
theorem valCells_set (vs : Nat → Int) (k : Nat) (v : Int) : (valCells vs).set k (.int .u32 v) = valCells (set vs k v) := by
  have len : ∀ q, (valCells q).length = 16 := fun q => by simp [valCells]
  refine List.ext_getElem? fun j => ?_
  rw [List.getElem?_set, len]
  by_cases hij : k = j
  · subst hij
    rw [if_pos rfl]
    by_cases h : k < 16
    · rw [if_pos h, valCells_get _ _ h]; simp [set]
    · rw [if_neg h, List.getElem?_eq_none (by rw [len]; omega)]
  · rw [if_neg hij]
    by_cases h : j < 16
    · rw [valCells_get _ _ h, valCells_get _ _ h]; simp [set, Ne.symm hij]
    · rw [List.getElem?_eq_none (by rw [len]; omega), List.getElem?_eq_none (by rw [len]; omega)]
/-- at the head of a round of the accesses -/
inductive MLoop {M : Type} (I : M → (Nat → Prop) → World → Prop) (F : BusM M) (m : M) (O : Nat → Prop) (W : World) (g : Nat) (t : TypeId) (o s : Sta) (b : Value) (at_ : Int) (i : Ins) (wt : Bool) (y : Nat) (v5 v64 : Value) (wr : World) : Prop
  | mk (k : Nat) (mk : M) (a : Int) (vs : Nat → Int) (Ok : Nat → Prop) (hk : k ≤ 16) (e64 : v64 = .int .i64 k) (e5 : v5 = .int .u32 a) (run : Hid (mrun F m o at_ i k = .ok (mk, a, vs))) (ha : 0 ≤ a ∧ a < 4294967296) (hv : ∀ j, 0 ≤ vs j ∧ vs j < 4294967296)
      (hW : Blok wr g t (workCells o s b at_ i wt)) (hY : Blok wr y 136 (valCells vs)) (hI : I mk Ok wr) (gr : GrownS W wr O) (hO : ∀ j, Ok j → O j ∨ W.heap.size ≤ j) (hy : ¬ Ok y)
inductive MEnd {M : Type} (I : M → (Nat → Prop) → World → Prop) (F : BusM M) (m : M) (O : Nat → Prop) (W : World) (g : Nat) (t : TypeId) (o s : Sta) (b : Value) (at_ : Int) (i : Ins) (wt : Bool) (y : Nat) (wr : World) : Prop
  | mk (mk : M) (a : Int) (vs : Nat → Int) (Ok : Nat → Prop) (run : Hid (mrun F m o at_ i 16 = .ok (mk, a, vs))) (hv : ∀ j, 0 ≤ vs j ∧ vs j < 4294967296)
      (hW : Blok wr g t (workCells o s b at_ i wt)) (hY : Blok wr y 136 (valCells vs)) (hI : I mk Ok wr) (gr : GrownS W wr O) (hO : ∀ j, Ok j → O j ∨ W.heap.size ≤ j) (hy : ¬ Ok y)
inductive PLoop {M : Type} (I : M → (Nat → Prop) → World → Prop) (O : Nat → Prop) (W : World) (g : Nat) (t : TypeId) (o s : Sta) (b : Value) (at_ : Int) (i : Ins) (wt : Bool) (y : Nat) (mk : M) (vs : Nat → Int) (Ok : Nat → Prop) (v109 : Value) (wr : World) : Prop
  | mk (k : Nat) (hk : k ≤ 16) (e : v109 = .int .i64 k) (hW : Blok wr g t (workCells o (mputs s i vs k) b at_ i wt)) (hY : Blok wr y 136 (valCells vs)) (hI : I mk Ok wr) (gr : GrownS W wr (fun j => j = g ∨ O j))
theorem grownS_chain {W wr w2 : World} {O Ok : Nat → Prop} (h : GrownS W wr O) (k : GrownS wr w2 Ok) (hO : ∀ j, Ok j → O j ∨ W.heap.size ≤ j) : GrownS W w2 O :=
  ⟨k.os.trans h.os, k.tape.trans h.tape, k.output.trans h.output, Nat.le_trans h.size k.size, fun j hj hn => (k.block j (Nat.lt_of_lt_of_le hj h.size) (fun q => (hO j q).elim hn (fun r => by omega))).trans (h.block j hj hn)⟩
theorem okS_mputs {s : Sta} (hs : OkS s) (i : Ins) {vs : Nat → Int} (hv : ∀ j, 0 ≤ vs j ∧ vs j < 4294967296) : ∀ k, OkS (mputs s i vs k)
  | 0 => hs
  | k + 1 => by
    unfold mputs
    split
    · exact okS_put (okS_mputs hs i hv k) _ (hv k)
    · exact okS_mputs hs i hv k
end Go.Proofs.Ytpfhplhamnohjaa
