/- Layer 20: does$1, behind an instruction. Layer 20: Return. -/
import Derived.Test.YtpfhplhamnohjaaG11
import Derived.Recover
import Derived.Test.YtpfhplhamnohjaaG10
namespace Go.Proofs.Ytpfhplhamnohjaa
set_option maxHeartbeats 25600000
set_option maxRecDepth 100000
open Go.RowKit

theorem one_toList {cs : List Value} (h : cs.all (·.oneCell') = true) : cs.toArray.all (·.oneCell') = true := by
  rw [← Array.all_toList]; exact h
theorem there_of {w : World} {g : Nat} {t : TypeId} {cs : List Value} (h : Blok w g t cs) (o n : Nat) (hl : o + n ≤ cs.length) : w.there g o n := fun j hj => ⟨by rw [h.cell, List.getElem?_eq_getElem (by omega)]; rfl, h.frozen _⟩
/-- a load of many cells in a head that leaves the world alone -/
theorem wpStill_load_mid {P : Program} {ops : Array Oper} {w : World} {Q : Act → Prop} {o : Oper} {rest : List Oper} {a : Act} (hw : Region.wanted o (yielded ops a.tmps) = true) (ty : TypeId) (x : Operand) (ho : o.op = .load ty x)
    (b off : Nat) (hx : a.eval x = .pointer (some ⟨b, off, none⟩)) (cs : List Value) (d : TypeDesc) (hS : w.rangeAt b off cs) (hu : P.underlying ty = some d) (hd : d.isRow = true) (hi : (P.info? ty).map (·.size) = some cs.length)
    (h : wpStill P ops w Q rest (a.put o.dst (.agg cs.toArray))) : wpStill P ops w Q (o :: rest) a := by
  refine wpStill_step fun K hK => ?_
  rw [if_pos hw]
  unfold Oper.still
  have e : (execOp a.eval o).run P w = .ok (.value (.agg cs.toArray)) w := by
    unfold execOp
    simp only [ho, hx, Instr.loadAt, Instr.sureAddr, Sem.run_bind, Sem.run_pure, Result.andThen_ok, run_loadVar_mid w b off ty cs d hS hu hd hi]
  rw [e, Oper.stillUpon_value]
  exact hK _ h
theorem recover_idle {P : Program} {Q : Exit → Act → List Frame → World → Prop} {a : Act} {c₀ : Frame} {cs : List Frame} {w : World} {ty : TypeId} {p : String} (hu : c₀.mode = .returning) (h : Q .normal (a.put (some 7) .nilIface) (c₀ :: cs) w) :
    (Code.region 0 #[{ dst := some 7, op := .call { callee := .builtin .recover, args := #[], argTypes := #[] }, type := ty, pos := p, after := #[], guard := none }] false).wpS P Q a (c₀ :: cs) w := by
  apply wpS_region
  simp [wpOpsS, go_sem, recoverD, hu]
  exact h
theorem recover_some {P : Program} {Q : Exit → Act → List Frame → World → Prop} {a : Act} {c₀ : Frame} {cs : List Frame} {w : World} {ty : TypeId} {p : String} {u : TypeId} {pv : Value} {older : List PanicEntry} (hu : c₀.mode = .panicking ({ v := .iface u pv, recovered := false } :: older))
    (h : Q .normal (a.put (some 7) (.iface u pv)) ({ c₀ with mode := .panicking ({ v := .iface u pv, recovered := true } :: older) } :: cs) w) :
    (Code.region 0 #[{ dst := some 7, op := .call { callee := .builtin .recover, args := #[], argTypes := #[] }, type := ty, pos := p, after := #[], guard := none }] false).wpS P Q a (c₀ :: cs) w := by
  apply wpS_region
  simp [wpOpsS, go_sem, recoverD, hu]
  exact h
theorem ite_in {c : Prop} [Decidable c] {A B : Prop} (h : c) (a : A) : if c then A else B := by rw [if_pos h]; exact a
/-- a walk that ends as it should -/
def NQ (R : World → Prop) (e : Exit) (a : Act) (w : World) : Prop := e = .normal ∧ a.defers = [] ∧ R w
theorem cpu_store {w : World} {g : Nat} {t : TypeId} {s s' : Sta} {on : Bool} (h : Blok w g t ((cpuCells s on).take 0 ++ (staCells s').toArray.toList ++ (cpuCells s on).drop (0 + (staCells s').toArray.size))) : Blok w g t (cpuCells s' on) := h
theorem does1_idle (bw bc bt gw gc : Nat) (tw tc : TypeId) (o s s0 : Sta) (b : Value) (at_ : Int) (i : Ins) (wt on : Bool) (W : World)
    (cw : W.cell? ⟨bw, 0, none⟩ = some (.pointer (some ⟨gw, 0, none⟩))) (cc : W.cell? ⟨bc, 0, none⟩ = some (.pointer (some ⟨gc, 0, none⟩))) (hw : Blok W gw tw (workCells o s b at_ i wt)) (hc : Blok W gc tc (cpuCells s0 on)) :
    CallsD Try.prog 35 #[.pointer (some ⟨bw, 0, none⟩), .pointer (some ⟨bc, 0, none⟩), .pointer (some ⟨bt, 0, none⟩)] .returning W fun e u' w' =>
      e = .returned (.tuple #[]) ∧ u' = .returning ∧ Blok w' gc tc (cpuCells s on) ∧ W.grownBy w' (some gc) := by
  have hL := work_range hw
  refine callsD_of_wpS Try.func35 rfl fun c₀ cs hu => ?_
  simp only [Try.ntmps35, List.size_toArray, List.length_cons, List.length_nil, Nat.reduceAdd, Nat.reduceSub, Array.replicate_succ, Array.replicate_zero, List.push_toArray, List.append_toArray, List.nil_append, List.cons_append]
  apply wpS_seq
  refine recover_idle hu ?_
  change Code.wpS _ _ _ _ _ _
  refine wpS_of_wp (Code.wp_mono (Q := NQ fun w' => Blok w' gc tc (cpuCells s on) ∧ W.grownBy w' (some gc)) ?_ ?_)
  · rintro _ a w' ⟨rfl, hd, hB, hG⟩
    refine ⟨hd, .returning, ?_, .tuple #[], results_none rfl _ _ _, rfl, rfl, hB, hG⟩
    cases c₀
    simp only at hu
    subst hu
    rfl
  simp only [Act.put, List.setIfInBounds_toArray, List.set_cons_zero, List.set_cons_succ]
  go_upto_region 5 with fail
  refine wp_region_tail 7 (by kernel_rfl) (by kernel_rfl) ?_
  simp only [List.take_succ_cons, List.take_zero, List.drop_succ_cons, List.drop_zero]
  still_step
  still_step
  still_step
  still_step
  refine wpStill_load_mid (by rfl) 26 _ rfl gw 30 rfl (staCells s) _ hL Try.underlying26 rfl (by rw [sta_size, staCells_len]) ?_
  simp only [Act.put, List.setIfInBounds_toArray, List.set_cons_zero, List.set_cons_succ]
  still_step
  still_step
  refine wpStill_nil ?_
  refine wpList_store_blok rfl 26 (.tmp 16) (.tmp 14) rfl gc 0 (staCells s).toArray rfl rfl (hc.drewN 1) (by simp [staCells_len, cpuCells]) (by rw [sta_size]; simp [staCells_len]) (staCells_one s) ?_
  intro w7 B7 g7 _
  go_wp2_with fail
  exact ⟨rfl, rfl, cpu_store B7, grown_then (bdrew (Below.refl _ _)) g7⟩
structure Tk where
  kind : Int
  at_ : Int
  word : Int
  va : Int
  fk : Int
  fl : Int
  fd : Int
  store : Bool
def tkCells (x : Tk) : List Value := [.int .i64 x.kind, .int .u32 x.at_, .int .u32 x.word, .int .u32 x.va, .int .i64 x.fk, .int .i64 x.fl, .int .i64 x.fd, .bool x.store]
theorem lt_cell {w : World} {b o : Nat} {v : Value} (h : w.cell? ⟨b, o, none⟩ = some v) : b < w.heap.size := by
  rcases Nat.lt_or_ge b w.heap.size with k | k
  · exact k
  · simp [World.cell?, Array.getElem?_eq_none k] at h
theorem gsdrew {w w' : World} {S : Nat → Prop} (h : GrownS w w' S) : GrownS w w'.drew S := h.trans (GrownS.drew _ _)
theorem mode_self {c₀ : Frame} {u : FrameMode} : ({ c₀ with mode := u } : Frame) = { { c₀ with mode := u } with mode := u } := rfl
theorem does1_undef (bw bc bt gc tk : Nat) (tc tt : TypeId) (s0 : Sta) (x : Tk) (on : Bool) (W : World)
    (cc : W.cell? ⟨bc, 0, none⟩ = some (.pointer (some ⟨gc, 0, none⟩))) (ct : W.cell? ⟨bt, 0, none⟩ = some (.pointer (some ⟨tk, 0, none⟩))) (hc : Blok W gc tc (cpuCells s0 on)) (hx : Blok W tk tt (tkCells x)) (hbt : bt ≠ gc) (hne : tk ≠ gc) :
    CallsD Try.prog 35 #[.pointer (some ⟨bw, 0, none⟩), .pointer (some ⟨bc, 0, none⟩), .pointer (some ⟨bt, 0, none⟩)] (.panicking [{ v := .iface 109 (.agg #[]), recovered := false }]) W fun e u' w' =>
      e = .returned (.tuple #[]) ∧ u' = .panicking [{ v := .iface 109 (.agg #[]), recovered := true }] ∧ Blok w' gc tc (cpuCells (entS s0 27 ((x.at_ + 4) % 4294967296) 4) on) ∧ Blok w' tk tt (tkCells { x with kind := 1 }) ∧ GrownS W w' (fun j => j = gc ∨ j = tk) := by
  have EN := Lib.hid (fun w' (k : Blok w' gc tc (cpuCells s0 on)) => enter_is s0 on gc tc 27 ((x.at_ + 4) % 4294967296) 4 (by simp) w' k)
  refine callsD_of_wpS Try.func35 rfl fun c₀ cs hu => ?_
  simp only [Try.ntmps35, List.size_toArray, List.length_cons, List.length_nil, Nat.reduceAdd, Nat.reduceSub, Array.replicate_succ, Array.replicate_zero, List.push_toArray, List.append_toArray, List.nil_append, List.cons_append]
  apply wpS_seq
  refine recover_some hu ?_
  change Code.wpS _ _ _ _ _ _
  refine wpS_of_wp (Code.wp_mono (Q := NQ fun w' => Blok w' gc tc (cpuCells (entS s0 27 ((x.at_ + 4) % 4294967296) 4) on) ∧ Blok w' tk tt (tkCells { x with kind := 1 }) ∧ GrownS W w' (fun j => j = gc ∨ j = tk)) ?_ ?_)
  · rintro _ a w' ⟨rfl, hd, hB, hX, hG⟩
    exact ⟨hd, _, rfl, .tuple #[], results_none rfl _ _ _, rfl, rfl, hB, hX, hG⟩
  simp only [Act.put, List.setIfInBounds_toArray, List.set_cons_zero, List.set_cons_succ]
  have ta : ∀ w, (Instr.typeAssert (.iface 109 (.agg #[])) 20 109 true).run Try.prog w = .ok (.tuple #[.agg #[], .bool true]) w := fun w => by kernel_rfl
  go_upto_region 8 with fail
  have hlc : bc < W.heap.size := lt_cell cc
  have hlt : bt < W.heap.size := lt_cell ct
  have bV : Below W.heap.size W (W.alloc (.cells #[] 109)) := (Below.refl _ _).alloc (Nat.le_refl _) _
  have cc' : (W.alloc (.cells #[] 109)).cell? ⟨bc, 0, none⟩ = some (.pointer (some ⟨gc, 0, none⟩)) := (bV.cell hlc).trans cc
  have ct' : (W.alloc (.cells #[] 109)).cell? ⟨bt, 0, none⟩ = some (.pointer (some ⟨tk, 0, none⟩)) := (bV.cell hlt).trans ct
  have hc' := hc.alloc (.cells #[] 109)
  have hx' := hx.alloc (.cells #[] 109)
  generalize W.alloc (.cells #[] 109) = V at bV cc' ct' hc' hx' ⊢
  have x1 : V.cell? ⟨tk, 1, none⟩ = some (.int .u32 x.at_) := hx'.cell 1
  have hcd : Blok V.drew gc tc (cpuCells s0 on) := hc'
  have hxd : Blok V.drew tk tt (tkCells x) := hx'
  have ctd : V.drew.cell? ⟨bt, 0, none⟩ = some (.pointer (some ⟨tk, 0, none⟩)) := ct'
  clear cc ct ta
  (refine wp_region_tail 6 (by kernel_rfl) (by kernel_rfl) ?_; simp only [List.take_succ_cons, List.take_zero, List.drop_succ_cons, List.drop_zero]; (repeat still_step); (try refine wpStill_nil ?_))
  go_wp2_with (go_at_call 28; (with_reducible refine (EN.out _ hcd).mono ?_); rintro e w2 ⟨rfl, B2, g2⟩; have hx2 := hxd.grown g2 (fun e => hne (Option.some.inj e)); have z0 : w2.cell? ⟨tk, 0, none⟩ = some (.int .i64 x.kind) := hx2.cell 0; have zf := hx2.frozen 0; have ct2 : w2.cell? ⟨bt, 0, none⟩ = some (.pointer (some ⟨tk, 0, none⟩)) := (gcell g2 (lt_cell ctd) (fun e => hbt (Option.some.inj e).symm)).trans ctd)
  exact ⟨rfl, rfl, B2.far (fun e => hne e.symm) _, hx2.set_ 0 _, ((GrownS.ofBelow (bdrew bV)).trans (GrownS.ofOne g2 (Or.inl rfl))).trans (GrownS.ofOne (grown_one _ _ _ _) (Or.inr rfl))⟩
theorem does1_abort (bw bc bt gc tk : Nat) (tc tt : TypeId) (s0 : Sta) (x : Tk) (on : Bool) (kind va n v : Int) (p : Bool) (y : Ans) (W : World)
    (cc : W.cell? ⟨bc, 0, none⟩ = some (.pointer (some ⟨gc, 0, none⟩))) (ct : W.cell? ⟨bt, 0, none⟩ = some (.pointer (some ⟨tk, 0, none⟩))) (hc : Blok W gc tc (cpuCells s0 on)) (hx : Blok W tk tt (tkCells x)) (hbt : bt ≠ gc) (hbk : bt ≠ tk) (hne : tk ≠ gc) :
    CallsD Try.prog 35 #[.pointer (some ⟨bw, 0, none⟩), .pointer (some ⟨bc, 0, none⟩), .pointer (some ⟨bt, 0, none⟩)] (.panicking (abortP kind va n v p y)) W fun e u' w' =>
      e = .returned (.tuple #[]) ∧ u' = .panicking ((abortP kind va n v p y).map fun q => { q with recovered := true }) ∧ Blok w' gc tc (cpuCells (entS s0 23 ((x.at_ + 8) % 4294967296) 16) on) ∧ Blok w' tk tt (tkCells { x with kind := 4, va := va, fk := y.fk, fl := y.fl, fd := y.fd, store := kind == 3 }) ∧ GrownS W w' (fun j => j = gc ∨ j = tk) := by
  have EN := Lib.hid (fun w' (k : Blok w' gc tc (cpuCells s0 on)) => enter_is s0 on gc tc 23 ((x.at_ + 8) % 4294967296) 16 (by simp) w' k)
  refine callsD_of_wpS Try.func35 rfl fun c₀ cs hu => ?_
  simp only [Try.ntmps35, List.size_toArray, List.length_cons, List.length_nil, Nat.reduceAdd, Nat.reduceSub, Array.replicate_succ, Array.replicate_zero, List.push_toArray, List.append_toArray, List.nil_append, List.cons_append]
  apply wpS_seq
  refine recover_some hu ?_
  change Code.wpS _ _ _ _ _ _
  refine wpS_of_wp (Code.wp_mono (Q := NQ fun w' => Blok w' gc tc (cpuCells (entS s0 23 ((x.at_ + 8) % 4294967296) 16) on) ∧ Blok w' tk tt (tkCells { x with kind := 4, va := va, fk := y.fk, fl := y.fl, fd := y.fd, store := kind == 3 }) ∧ GrownS W w' (fun j => j = gc ∨ j = tk)) ?_ ?_)
  · rintro _ a w' ⟨rfl, hd, hB, hX, hG⟩
    exact ⟨hd, _, rfl, .tuple #[], results_none rfl _ _ _, rfl, rfl, hB, hX, hG⟩
  simp only [Act.put, List.setIfInBounds_toArray, List.set_cons_zero, List.set_cons_succ]
  have ta : ∀ (q : Value) w, (Instr.typeAssert (.iface 111 q) 20 109 true).run Try.prog w = .ok (.tuple #[.agg #[], .bool false]) w := fun q w => by kernel_rfl
  have tb : ∀ (q : Value) w, (Instr.typeAssert (.iface 111 q) 20 111 true).run Try.prog w = .ok (.tuple #[q, .bool true]) w := fun q w => by kernel_rfl
  go_upto_region 12 with fail
  have hlc : bc < W.heap.size := lt_cell cc
  have hlt : bt < W.heap.size := lt_cell ct
  have hB := Blok.new W 111 [.int .i64 kind, .int .u32 va, .int .i64 n, .int .u32 v, .bool p, .int .i64 y.fk, .int .i64 y.fl, .int .i64 y.fd]
  change Blok (W.alloc (.cells #[.int .i64 kind, .int .u32 va, .int .i64 n, .int .u32 v, .bool p, .int .i64 y.fk, .int .i64 y.fl, .int .i64 y.fd] 111)) W.heap.size _ _ at hB
  have bV : Below W.heap.size W (W.alloc (.cells #[.int .i64 kind, .int .u32 va, .int .i64 n, .int .u32 v, .bool p, .int .i64 y.fk, .int .i64 y.fl, .int .i64 y.fd] 111)) := (Below.refl _ _).alloc (Nat.le_refl _) _
  generalize W.alloc (.cells #[.int .i64 kind, .int .u32 va, .int .i64 n, .int .u32 v, .bool p, .int .i64 y.fk, .int .i64 y.fl, .int .i64 y.fd] 111) = V at bV hB ⊢
  have cc' : V.cell? ⟨bc, 0, none⟩ = some (.pointer (some ⟨gc, 0, none⟩)) := (bV.cell hlc).trans cc
  have ct' : V.cell? ⟨bt, 0, none⟩ = some (.pointer (some ⟨tk, 0, none⟩)) := (bV.cell hlt).trans ct
  have hcV := hc.below bV hc.lt
  have hxV := hx.below bV hx.lt
  have hcd : Blok V.drew gc tc (cpuCells s0 on) := hcV
  have hxd : Blok V.drew tk tt (tkCells x) := hxV
  have ctd : V.drew.cell? ⟨bt, 0, none⟩ = some (.pointer (some ⟨tk, 0, none⟩)) := ct'
  have x1 : V.cell? ⟨tk, 1, none⟩ = some (.int .u32 x.at_) := hxd.cell 1
  have hBd : Blok V.drew W.heap.size _ _ := hB
  have hbg : some W.heap.size ≠ some gc := fun e => by have := Option.some.inj e; have := hc.lt; omega
  have hyk : ¬ W.heap.size = tk := fun e => by have := hx.lt; omega
  clear cc ct ta tb
  (refine wp_region_tail 6 (by kernel_rfl) (by kernel_rfl) ?_; simp only [List.take_succ_cons, List.take_zero, List.drop_succ_cons, List.drop_zero]; (repeat still_step); (try refine wpStill_nil ?_))
  go_upto_region 13 with (go_at_call 28; (with_reducible refine (EN.out _ hcd).mono ?_); rintro e w2 ⟨rfl, B2, g2⟩)
  have hx2 := hxd.grown g2 (fun e => hne (Option.some.inj e))
  have hB2 := hBd.grown g2 hbg
  have ct2 : w2.cell? ⟨bt, 0, none⟩ = some (.pointer (some ⟨tk, 0, none⟩)) := (gcell g2 (lt_cell ctd) (fun e => hbt (Option.some.inj e).symm)).trans ctd
  have e0 : ∀ w', GrownS w2 w' (fun j => j = tk) → w'.cell? ⟨bt, 0, none⟩ = some (.pointer (some ⟨tk, 0, none⟩)) := fun w' k => (k.cell (lt_cell ct2) hbk).trans ct2
  have e1 : ∀ w', GrownS w2 w' (fun j => j = tk) → w'.cell? ⟨W.heap.size, 0, none⟩ = some (.int .i64 kind) := fun w' k => (hB2.gs k hyk).cell 0
  have e2 : ∀ w', GrownS w2 w' (fun j => j = tk) → w'.cell? ⟨W.heap.size, 1, none⟩ = some (.int .u32 va) := fun w' k => (hB2.gs k hyk).cell 1
  have e3 : ∀ w', GrownS w2 w' (fun j => j = tk) → w'.cell? ⟨W.heap.size, 5, none⟩ = some (.int .i64 y.fk) := fun w' k => (hB2.gs k hyk).cell 5
  have e4 : ∀ w', GrownS w2 w' (fun j => j = tk) → w'.cell? ⟨W.heap.size, 6, none⟩ = some (.int .i64 y.fl) := fun w' k => (hB2.gs k hyk).cell 6
  have e5 : ∀ w', GrownS w2 w' (fun j => j = tk) → w'.cell? ⟨W.heap.size, 7, none⟩ = some (.int .i64 y.fd) := fun w' k => (hB2.gs k hyk).cell 7
  have z0 : w2.cell? ⟨tk, 0, none⟩ = some (.int .i64 x.kind) := hx2.cell 0
  have z3 : w2.cell? ⟨tk, 3, none⟩ = some (.int .u32 x.va) := hx2.cell 3
  have z4 : w2.cell? ⟨tk, 4, none⟩ = some (.int .i64 x.fk) := hx2.cell 4
  have z5 : w2.cell? ⟨tk, 5, none⟩ = some (.int .i64 x.fl) := hx2.cell 5
  have z6 : w2.cell? ⟨tk, 6, none⟩ = some (.int .i64 x.fd) := hx2.cell 6
  have z7 : w2.cell? ⟨tk, 7, none⟩ = some (.bool x.store) := hx2.cell 7
  have q0 := hx2.frozen 0
  have q3 := hx2.frozen 3
  have q4 := hx2.frozen 4
  have q5 := hx2.frozen 5
  have q6 := hx2.frozen 6
  have q7 := hx2.frozen 7
  refine wp_region_noPanic ?_
  go_region_held3 (fun w' => GrownS w2 w' (fun j => j = tk))
    (repeat' (first | with_reducible assumption | with_reducible exact GrownS.drew _ _ | with_reducible exact GrownS.refl _ _ | with_reducible refine gsdrew ?_ | with_reducible refine GrownS.one ?_ (grown_one _ _ _ _) rfl))
    (first | fail)
  have hne' : gc ≠ tk := fun e => hne e.symm
  have HX := (((((hx2.set_ 0 (.int .i64 4)).set_ 3 (.int .u32 va)).set_ 4 (.int .i64 y.fk)).set_ 5 (.int .i64 y.fl)).set_ 6 (.int .i64 y.fd)).set_ 7 (.bool (kind == 3))
  have HB := (((((B2.far (p := ⟨tk, 0, none⟩) hne' (.int .i64 4)).far (p := ⟨tk, 3, none⟩) hne' (.int .u32 va)).far (p := ⟨tk, 4, none⟩) hne' (.int .i64 y.fk)).far (p := ⟨tk, 5, none⟩) hne' (.int .i64 y.fl)).far (p := ⟨tk, 6, none⟩) hne' (.int .i64 y.fd)).far (p := ⟨tk, 7, none⟩) hne' (.bool (kind == 3))
  have HG := gtrans (gtrans (gtrans (gtrans (gtrans (grown_one w2 tk 0 (.int .i64 4)) (grown_one _ tk 3 (.int .u32 va))) (grown_one _ tk 4 (.int .i64 y.fk))) (grown_one _ tk 5 (.int .i64 y.fl))) (grown_one _ tk 6 (.int .i64 y.fd))) (grown_one _ tk 7 (.bool (kind == 3)))
  refine NoPanic.normal ?_
  go_wp2_with fail
  exact ⟨rfl, rfl, HB.drewN 1, HX.drewN 1, (((GrownS.ofBelow (bdrew bV)).trans (GrownS.ofOne g2 (Or.inl rfl))).trans (GrownS.ofOne HG (Or.inr rfl))).trans (GrownS.drew _ _)⟩
end Go.Proofs.Ytpfhplhamnohjaa
namespace Go.Proofs.Ytpfhplhamnohjaa
set_option maxHeartbeats 25600000
set_option maxRecDepth 100000
open Go.RowKit

set_option linter.unusedSimpArgs false
def retV (s : Sta) (less : Int) : Sta × Int := if backB s then (backT s ((regV s 14 - less) % 4294967296), 0) else (s, 201)
theorem wp_store_blok {P : Program} {op : Oper} {a : Act} {w : World} {K : Act → World → Prop} {Q : Exit → Act → World → Prop} (ty : TypeId) (x y : Operand) (ho : op.op = .store ty x y)
    (g o : Nat) (vs : Array Value) (hx : a.eval x = .pointer (some ⟨g, o, none⟩)) (hy : a.eval y = .agg vs) {t : TypeId} {cs : List Value} (hb : Blok w g t cs) (hl : o + vs.size ≤ cs.length)
    (hi : (P.info? ty).map (·.size) = some vs.size) (h1 : vs.toList.all (·.oneCell') = true)
    (h : ∀ w1, Blok w1 g t (cs.take o ++ vs.toList ++ cs.drop (o + vs.size)) → w.grownBy w1 (some g) → K (a.put op.dst undef) w1) : op.wp P a w K Q := by
  refine wp_store_mid ty x y ho g o vs hx hy (fun j hj => ⟨?_, hb.frozen _⟩) hi (by rw [← Array.all_toList]; exact h1) ?_
  · rw [hb.cell, List.getElem?_eq_getElem (by omega)]; rfl
  · obtain ⟨h2, h3⟩ := grown_setCells (w := w) (g := g) vs.toList o
    exact h _ (by have := hb.setCells vs.toList o (by simpa using hl); simpa using this) h2
theorem if_wp {c : Prop} [Decidable c] {A B : Prop} (h : c) (a : A) : if c then A else B := by rw [if_pos h]; exact a
theorem regV_u (s : Sta) (n : Int) (hs : OkS s) : 0 ≤ regV s n ∧ regV s n < 4294967296 := by
  unfold regV
  split
  · rename_i h; exact hs _ (regO_lt _ _ h.1)
  · omega
theorem Return_is (s : Sta) (on : Bool) (g : Nat) (t : TypeId) (less : Int) (hs : OkS s) (W : World) (h : Blok W g t (cpuCells s on)) :
    Calls Try.prog 15 #[.pointer (some ⟨g, 0, none⟩), .int .u32 less] W fun e w' => e = .returned (.int .i64 (retV s less).2) ∧ Blok w' g t (cpuCells (retV s less).1 on) ∧ W.grownBy w' (some g) := by
  have hlt := h.lt
  have RG := Lib.hid (fun w' (k : Below W.heap.size W w') => Reg_is s on g t 14 hs w' (h.below k hlt))
  have BK := Lib.hid (fun w' => back_is s ((regV s 14 - less) % 4294967296) hs w')
  obtain ⟨R, hR⟩ : ∃ R, R = retV s less := ⟨_, rfl⟩
  rw [← hR]
  unfold retV at hR
  have HV := Lib.hid (show backR s ((regV s 14 - less) % 4294967296) = if backB s then backT s ((regV s 14 - less) % 4294967296) else s from rfl)
  generalize backT s ((regV s 14 - less) % 4294967296) = T at hR HV
  generalize backR s ((regV s 14 - less) % 4294967296) = X at BK HV
  generalize backB s = ok at BK hR HV
  generalize regV s 14 = rv at RG BK
  have HR := Lib.hid hR
  clear hR
  go_enter Try.func15, Try.ntmps15
  go_upto_region 1 with fail
  go_cut [5, 6] (fun s5 s6 wx => ∃ y : Nat, s5 = .pointer (some ⟨y, 0, none⟩) ∧ s6 = .bool ok ∧ Blok wx y 26 (staCells X) ∧ W.heap.size ≤ y ∧ Below W.heap.size W wx)
  case first =>
    refine wp_region_held_drew (S := fun w' => Below W.heap.size W w') (by kernel_rfl) (bdrew (Below.refl _ _)) (fun hHeld => ?_)
    (refine take_at (i := 0) (d := some 8) (v := ?_) rfl (by rfl) (by kernel_rfl) (by kernel_rfl) (by kernel_rfl) (fun _ _ _ h => h) (Or.inl ⟨by rfl, ?_⟩) (by with_reducible assumption) ?_; rotate_left 1; (· ((intro w hSw); (try dsimp only at hSw); first | (go_simp; done) | (go_simp; with_reducible rfl))); (try simp only [Act.put, List.setIfInBounds_toArray, List.set_cons_zero, List.set_cons_succ]))
    (refine take_at (i := 1) (d := some 9) (v := ?_) rfl (by rfl) (by kernel_rfl) (by kernel_rfl) (by kernel_rfl) (fun _ _ _ h => h) (Or.inl ⟨by rfl, ?_⟩) (by with_reducible assumption) ?_; rotate_left 1; (· ((intro w hSw); (try dsimp only at hSw); first | (go_simp; done) | (go_simp; with_reducible rfl))); (try simp only [Act.put, List.setIfInBounds_toArray, List.set_cons_zero, List.set_cons_succ]))
    (refine take_at (i := 2) (d := some 10) (v := ?_) rfl (by rfl) (by kernel_rfl) (by kernel_rfl) (by kernel_rfl) (fun _ _ _ h => h) (Or.inl ⟨by rfl, ?_⟩) (by with_reducible assumption) ?_; rotate_left 1; (· ((intro w hSw); (try dsimp only at hSw); first | (go_simp; done) | (go_simp; with_reducible rfl))); (try simp only [Act.put, List.setIfInBounds_toArray, List.set_cons_zero, List.set_cons_succ]))
    (refine take_at (i := 3) (d := some 11) (v := .agg (staCells s).toArray) rfl (by rfl) (by kernel_rfl) (by kernel_rfl) (by kernel_rfl) (fun _ _ _ h => h) ?_ (by with_reducible assumption) ?_; (· (exact yieldsIf_load_mid (by rfl) 26 _ rfl g 0 rfl (staCells s) _ (fun w' k => cpu_range (h.below k hlt)) Try.underlying26 rfl (by rw [sta_size, staCells_len]))); (try simp only [Act.put, List.setIfInBounds_toArray, List.set_cons_zero, List.set_cons_succ]))
    (refine take_at (i := 4) (d := some 12) (v := ?_) rfl (by rfl) (by kernel_rfl) (by kernel_rfl) (by kernel_rfl) (fun _ _ _ h => h) (Or.inl ⟨by rfl, ?_⟩) (by with_reducible assumption) ?_; rotate_left 1; (· ((intro w hSw); (try dsimp only at hSw); first | (go_simp; done) | (go_simp; with_reducible rfl))); (try simp only [Act.put, List.setIfInBounds_toArray, List.set_cons_zero, List.set_cons_succ]))
    (refine take_at (i := 6) (d := some 14) (v := ?_) rfl (by rfl) (by kernel_rfl) (by kernel_rfl) (by kernel_rfl) (fun _ _ _ h => h) (Or.inl ⟨by rfl, ?_⟩) (by with_reducible assumption) ?_; rotate_left 1; (· ((intro w hSw); (try dsimp only at hSw); first | (go_simp; done) | (go_simp; with_reducible rfl))); (try simp only [Act.put, List.setIfInBounds_toArray, List.set_cons_zero, List.set_cons_succ]))
    refine wpAnyH_ready (rs := [5, 12]) (by kernel_rfl) (by simp) ?_
    refine AllReadyH.cons rfl (fun K hK => ?_) (AllReadyH.cons rfl (fun K hK => ?_) AllReadyH.nil)
    · go_simp
      go_at_call 27
      refine (RG.out _ (bdrew (Below.refl _ _))).mono ?_
      rintro e w1 ⟨rfl, k1, rfl⟩
      refine hK.out _ _ (bdrewN (bdrew (Below.refl _ _)) k1) (fun hHeld => ?_)
      clear hK K
      (try simp only [Act.put, List.setIfInBounds_toArray, List.set_cons_zero, List.set_cons_succ])
      have bk := bdrewN (bdrew (Below.refl W.heap.size W)) k1
      generalize (World.drew W).drewN k1 = V0 at bk ⊢
      (refine take_at (i := 7) (d := some 15) (v := ?_) rfl (by rfl) (by kernel_rfl) (by kernel_rfl) (by kernel_rfl) (fun _ _ _ h => h) (Or.inl ⟨by rfl, ?_⟩) (by with_reducible assumption) ?_; rotate_left 1; (· ((intro w hSw); (try dsimp only at hSw); first | (go_simp; done) | (go_simp; with_reducible rfl))); (try simp only [Act.put, List.setIfInBounds_toArray, List.set_cons_zero, List.set_cons_succ]))
      refine wpAnyH_ready (rs := [8, 12]) (by kernel_rfl) (by simp) ?_
      refine AllReadyH.cons rfl (fun K hK => ?_) (AllReadyH.cons rfl (fun K hK => ?_) AllReadyH.nil)
      · go_simp
        go_at_call 30
        refine (BK.out _).mono ?_
        rintro e w1 ⟨rfl, k2⟩
        have bk2 := bnext bk k2 (Nat.le_refl _)
        refine hK.out _ _ bk2 (fun hHeld => ?_)
        clear hK K
        (try simp only [Act.put, List.setIfInBounds_toArray, List.set_cons_zero, List.set_cons_succ])
        (refine take_at (i := 9) (d := some 7) (v := ?_) rfl (by rfl) (by kernel_rfl) (by kernel_rfl) (by kernel_rfl) (fun _ _ _ h => h) (Or.inl ⟨by rfl, ?_⟩) (by with_reducible assumption) ?_; rotate_left 1; (· ((intro w hSw); (try dsimp only at hSw); first | (go_simp; done) | (go_simp; with_reducible rfl))); (try simp only [Act.put, List.setIfInBounds_toArray, List.set_cons_zero, List.set_cons_succ]))
        (refine take_at (i := 10) (d := some 17) (v := ?_) rfl (by rfl) (by kernel_rfl) (by kernel_rfl) (by kernel_rfl) (fun _ _ _ h => h) (Or.inl ⟨by rfl, ?_⟩) (by with_reducible assumption) ?_; rotate_left 1; (· ((intro w hSw); (try dsimp only at hSw); first | (go_simp; done) | (go_simp; with_reducible rfl))); (try simp only [Act.put, List.setIfInBounds_toArray, List.set_cons_zero, List.set_cons_succ]))
        (refine take_at (i := 11) (d := some 18) (v := ?_) rfl (by rfl) (by kernel_rfl) (by kernel_rfl) (by kernel_rfl) (fun _ _ _ h => h) (Or.inl ⟨by rfl, ?_⟩) (by with_reducible assumption) ?_; rotate_left 1; (· ((intro w hSw); (try dsimp only at hSw); first | (go_simp; done) | (go_simp; with_reducible rfl))); (try simp only [Act.put, List.setIfInBounds_toArray, List.set_cons_zero, List.set_cons_succ]))
        refine wpAnyH_ready (rs := [12]) (by kernel_rfl) (by simp) ?_
        refine AllReadyH.cons rfl (fun K hK => ?_) AllReadyH.nil
        go_simp
        have hZ : Blok (w1.alloc (.cells #[.int .u32 0, .int .u32 0, .int .u32 0, .int .u32 0, .int .u32 0, .int .u32 0, .int .u32 0, .int .u32 0, .int .u32 0, .int .u32 0, .int .u32 0, .int .u32 0, .int .u32 0, .int .u32 0, .int .u32 0, .int .u32 0, .int .u32 0, .int .u32 0, .int .u32 0, .int .u32 0, .int .u32 0, .int .u32 0, .int .u32 0, .int .u32 0, .int .u32 0, .int .u32 0, .int .u32 0, .int .u32 0, .int .u32 0, .int .u32 0] 26)) w1.heap.size 26 (staCells zSta) := Blok.new w1 _ (staCells zSta)
        have bz := bk2.alloc bk2.size (.cells #[.int .u32 0, .int .u32 0, .int .u32 0, .int .u32 0, .int .u32 0, .int .u32 0, .int .u32 0, .int .u32 0, .int .u32 0, .int .u32 0, .int .u32 0, .int .u32 0, .int .u32 0, .int .u32 0, .int .u32 0, .int .u32 0, .int .u32 0, .int .u32 0, .int .u32 0, .int .u32 0, .int .u32 0, .int .u32 0, .int .u32 0, .int .u32 0, .int .u32 0, .int .u32 0, .int .u32 0, .int .u32 0, .int .u32 0, .int .u32 0] 26)
        generalize w1.alloc (.cells #[.int .u32 0, .int .u32 0, .int .u32 0, .int .u32 0, .int .u32 0, .int .u32 0, .int .u32 0, .int .u32 0, .int .u32 0, .int .u32 0, .int .u32 0, .int .u32 0, .int .u32 0, .int .u32 0, .int .u32 0, .int .u32 0, .int .u32 0, .int .u32 0, .int .u32 0, .int .u32 0, .int .u32 0, .int .u32 0, .int .u32 0, .int .u32 0, .int .u32 0, .int .u32 0, .int .u32 0, .int .u32 0, .int .u32 0, .int .u32 0] 26) = V1 at hZ bz ⊢
        have yz := bk2.size
        generalize w1.heap.size = y at hZ yz ⊢
        refine hK.out _ _ bz (fun hHeld => ?_)
        clear hK K
        (try simp only [Act.put, List.setIfInBounds_toArray, List.set_cons_zero, List.set_cons_succ])
        refine wpAnyH_ready (rs := [13]) (by kernel_rfl) (by simp) ?_
        refine AllReadyH.cons rfl (fun K hK => ?_) AllReadyH.nil
        refine if_wp (by kernel_rfl) ?_
        refine wp_store_blok 26 (.tmp 5) (.tmp 17) rfl y 0 (staCells X).toArray rfl rfl hZ (by simp [staCells_len]) (by rw [sta_size]; simp [staCells_len]) (staCells_one X) ?_
        intro w2 B2 g2
        have b2 := bgrow bz g2 yz
        refine hK.out _ _ b2 (fun hHeld => ?_)
        clear hK K
        (try simp only [Act.put, List.setIfInBounds_toArray, List.set_cons_zero, List.set_cons_succ])
        (refine take_at (i := 14) (d := some 6) (v := ?_) rfl (by rfl) (by kernel_rfl) (by kernel_rfl) (by kernel_rfl) (fun _ _ _ h => h) (Or.inl ⟨by rfl, ?_⟩) (by with_reducible assumption) ?_; rotate_left 1; (· ((intro w hSw); (try dsimp only at hSw); first | (go_simp; done) | (go_simp; with_reducible rfl))); (try simp only [Act.put, List.setIfInBounds_toArray, List.set_cons_zero, List.set_cons_succ]))
        refine wpAnyH_done (by kernel_rfl) ?_ _
        go_wp2_with fail
        go_meet
        exact ⟨y, rfl, rfl, by simpa [staCells] using B2, yz, b2⟩
      · go_simp
        have hZ : Blok (V0.alloc (.cells #[.int .u32 0, .int .u32 0, .int .u32 0, .int .u32 0, .int .u32 0, .int .u32 0, .int .u32 0, .int .u32 0, .int .u32 0, .int .u32 0, .int .u32 0, .int .u32 0, .int .u32 0, .int .u32 0, .int .u32 0, .int .u32 0, .int .u32 0, .int .u32 0, .int .u32 0, .int .u32 0, .int .u32 0, .int .u32 0, .int .u32 0, .int .u32 0, .int .u32 0, .int .u32 0, .int .u32 0, .int .u32 0, .int .u32 0, .int .u32 0] 26)) V0.heap.size 26 (staCells zSta) := Blok.new V0 _ (staCells zSta)
        have bz := bk.alloc bk.size (.cells #[.int .u32 0, .int .u32 0, .int .u32 0, .int .u32 0, .int .u32 0, .int .u32 0, .int .u32 0, .int .u32 0, .int .u32 0, .int .u32 0, .int .u32 0, .int .u32 0, .int .u32 0, .int .u32 0, .int .u32 0, .int .u32 0, .int .u32 0, .int .u32 0, .int .u32 0, .int .u32 0, .int .u32 0, .int .u32 0, .int .u32 0, .int .u32 0, .int .u32 0, .int .u32 0, .int .u32 0, .int .u32 0, .int .u32 0, .int .u32 0] 26)
        generalize V0.alloc (.cells #[.int .u32 0, .int .u32 0, .int .u32 0, .int .u32 0, .int .u32 0, .int .u32 0, .int .u32 0, .int .u32 0, .int .u32 0, .int .u32 0, .int .u32 0, .int .u32 0, .int .u32 0, .int .u32 0, .int .u32 0, .int .u32 0, .int .u32 0, .int .u32 0, .int .u32 0, .int .u32 0, .int .u32 0, .int .u32 0, .int .u32 0, .int .u32 0, .int .u32 0, .int .u32 0, .int .u32 0, .int .u32 0, .int .u32 0, .int .u32 0] 26) = V1 at hZ bz ⊢
        have yz := bk.size
        generalize V0.heap.size = y at hZ yz ⊢
        refine hK.out _ _ bz (fun hHeld => ?_)
        clear hK K
        (try simp only [Act.put, List.setIfInBounds_toArray, List.set_cons_zero, List.set_cons_succ])
        refine wpAnyH_ready (rs := [8]) (by kernel_rfl) (by simp) ?_
        refine AllReadyH.cons rfl (fun K hK => ?_) AllReadyH.nil
        go_simp
        go_at_call 30
        refine (BK.out _).mono ?_
        rintro e w1 ⟨rfl, k2⟩
        have bk2 := bnext bz k2 (Nat.le_refl _)
        have hZ2 := hZ.below k2 hZ.lt
        refine hK.out _ _ bk2 (fun hHeld => ?_)
        clear hK K
        (try simp only [Act.put, List.setIfInBounds_toArray, List.set_cons_zero, List.set_cons_succ])
        (refine take_at (i := 9) (d := some 7) (v := ?_) rfl (by rfl) (by kernel_rfl) (by kernel_rfl) (by kernel_rfl) (fun _ _ _ h => h) (Or.inl ⟨by rfl, ?_⟩) (by with_reducible assumption) ?_; rotate_left 1; (· ((intro w hSw); (try dsimp only at hSw); first | (go_simp; done) | (go_simp; with_reducible rfl))); (try simp only [Act.put, List.setIfInBounds_toArray, List.set_cons_zero, List.set_cons_succ]))
        (refine take_at (i := 10) (d := some 17) (v := ?_) rfl (by rfl) (by kernel_rfl) (by kernel_rfl) (by kernel_rfl) (fun _ _ _ h => h) (Or.inl ⟨by rfl, ?_⟩) (by with_reducible assumption) ?_; rotate_left 1; (· ((intro w hSw); (try dsimp only at hSw); first | (go_simp; done) | (go_simp; with_reducible rfl))); (try simp only [Act.put, List.setIfInBounds_toArray, List.set_cons_zero, List.set_cons_succ]))
        (refine take_at (i := 11) (d := some 18) (v := ?_) rfl (by rfl) (by kernel_rfl) (by kernel_rfl) (by kernel_rfl) (fun _ _ _ h => h) (Or.inl ⟨by rfl, ?_⟩) (by with_reducible assumption) ?_; rotate_left 1; (· ((intro w hSw); (try dsimp only at hSw); first | (go_simp; done) | (go_simp; with_reducible rfl))); (try simp only [Act.put, List.setIfInBounds_toArray, List.set_cons_zero, List.set_cons_succ]))
        refine wpAnyH_ready (rs := [13]) (by kernel_rfl) (by simp) ?_
        refine AllReadyH.cons rfl (fun K hK => ?_) AllReadyH.nil
        refine if_wp (by kernel_rfl) ?_
        refine wp_store_blok 26 (.tmp 5) (.tmp 17) rfl y 0 (staCells X).toArray rfl rfl hZ2 (by simp [staCells_len]) (by rw [sta_size]; simp [staCells_len]) (staCells_one X) ?_
        intro w2 B2 g2
        have b2 := bgrow bk2 g2 yz
        refine hK.out _ _ b2 (fun hHeld => ?_)
        clear hK K
        (try simp only [Act.put, List.setIfInBounds_toArray, List.set_cons_zero, List.set_cons_succ])
        (refine take_at (i := 14) (d := some 6) (v := ?_) rfl (by rfl) (by kernel_rfl) (by kernel_rfl) (by kernel_rfl) (fun _ _ _ h => h) (Or.inl ⟨by rfl, ?_⟩) (by with_reducible assumption) ?_; rotate_left 1; (· ((intro w hSw); (try dsimp only at hSw); first | (go_simp; done) | (go_simp; with_reducible rfl))); (try simp only [Act.put, List.setIfInBounds_toArray, List.set_cons_zero, List.set_cons_succ]))
        refine wpAnyH_done (by kernel_rfl) ?_ _
        go_wp2_with fail
        go_meet
        exact ⟨y, rfl, rfl, by simpa [staCells] using B2, yz, b2⟩
    · go_simp
      have hZ : Blok (World.drew (W.alloc (.cells #[.int .u32 0, .int .u32 0, .int .u32 0, .int .u32 0, .int .u32 0, .int .u32 0, .int .u32 0, .int .u32 0, .int .u32 0, .int .u32 0, .int .u32 0, .int .u32 0, .int .u32 0, .int .u32 0, .int .u32 0, .int .u32 0, .int .u32 0, .int .u32 0, .int .u32 0, .int .u32 0, .int .u32 0, .int .u32 0, .int .u32 0, .int .u32 0, .int .u32 0, .int .u32 0, .int .u32 0, .int .u32 0, .int .u32 0, .int .u32 0] 26))) W.heap.size 26 (staCells zSta) := (Blok.new W _ (staCells zSta)).drewN 1
      have bz := bdrew ((Below.refl W.heap.size W).alloc (Nat.le_refl _) (.cells #[.int .u32 0, .int .u32 0, .int .u32 0, .int .u32 0, .int .u32 0, .int .u32 0, .int .u32 0, .int .u32 0, .int .u32 0, .int .u32 0, .int .u32 0, .int .u32 0, .int .u32 0, .int .u32 0, .int .u32 0, .int .u32 0, .int .u32 0, .int .u32 0, .int .u32 0, .int .u32 0, .int .u32 0, .int .u32 0, .int .u32 0, .int .u32 0, .int .u32 0, .int .u32 0, .int .u32 0, .int .u32 0, .int .u32 0, .int .u32 0] 26))
      obtain ⟨y, ey⟩ : ∃ y, y = W.heap.size := ⟨_, rfl⟩
      have yz : W.heap.size ≤ y := by omega
      rw [← ey] at hZ ⊢
      clear ey
      generalize World.drew (W.alloc (.cells #[.int .u32 0, .int .u32 0, .int .u32 0, .int .u32 0, .int .u32 0, .int .u32 0, .int .u32 0, .int .u32 0, .int .u32 0, .int .u32 0, .int .u32 0, .int .u32 0, .int .u32 0, .int .u32 0, .int .u32 0, .int .u32 0, .int .u32 0, .int .u32 0, .int .u32 0, .int .u32 0, .int .u32 0, .int .u32 0, .int .u32 0, .int .u32 0, .int .u32 0, .int .u32 0, .int .u32 0, .int .u32 0, .int .u32 0, .int .u32 0] 26)) = V1 at hZ bz ⊢
      refine hK.out _ _ bz (fun hHeld => ?_)
      clear hK K
      (try simp only [Act.put, List.setIfInBounds_toArray, List.set_cons_zero, List.set_cons_succ])
      refine wpAnyH_ready (rs := [5]) (by kernel_rfl) (by simp) ?_
      refine AllReadyH.cons rfl (fun K hK => ?_) AllReadyH.nil
      go_simp
      go_at_call 27
      refine (RG.out _ bz).mono ?_
      rintro e w1 ⟨rfl, k1, rfl⟩
      refine hK.out _ _ (bdrewN bz k1) (fun hHeld => ?_)
      clear hK K
      (try simp only [Act.put, List.setIfInBounds_toArray, List.set_cons_zero, List.set_cons_succ])
      replace hZ := hZ.drewN k1
      replace bz := bdrewN bz k1
      generalize V1.drewN k1 = V2 at hZ bz ⊢
      (refine take_at (i := 7) (d := some 15) (v := ?_) rfl (by rfl) (by kernel_rfl) (by kernel_rfl) (by kernel_rfl) (fun _ _ _ h => h) (Or.inl ⟨by rfl, ?_⟩) (by with_reducible assumption) ?_; rotate_left 1; (· ((intro w hSw); (try dsimp only at hSw); first | (go_simp; done) | (go_simp; with_reducible rfl))); (try simp only [Act.put, List.setIfInBounds_toArray, List.set_cons_zero, List.set_cons_succ]))
      refine wpAnyH_ready (rs := [8]) (by kernel_rfl) (by simp) ?_
      refine AllReadyH.cons rfl (fun K hK => ?_) AllReadyH.nil
      go_simp
      go_at_call 30
      refine (BK.out _).mono ?_
      rintro e w1 ⟨rfl, k2⟩
      have bk2 := bnext bz k2 (Nat.le_refl _)
      have hZ2 := hZ.below k2 hZ.lt
      refine hK.out _ _ bk2 (fun hHeld => ?_)
      clear hK K
      (try simp only [Act.put, List.setIfInBounds_toArray, List.set_cons_zero, List.set_cons_succ])
      (refine take_at (i := 9) (d := some 7) (v := ?_) rfl (by rfl) (by kernel_rfl) (by kernel_rfl) (by kernel_rfl) (fun _ _ _ h => h) (Or.inl ⟨by rfl, ?_⟩) (by with_reducible assumption) ?_; rotate_left 1; (· ((intro w hSw); (try dsimp only at hSw); first | (go_simp; done) | (go_simp; with_reducible rfl))); (try simp only [Act.put, List.setIfInBounds_toArray, List.set_cons_zero, List.set_cons_succ]))
      (refine take_at (i := 10) (d := some 17) (v := ?_) rfl (by rfl) (by kernel_rfl) (by kernel_rfl) (by kernel_rfl) (fun _ _ _ h => h) (Or.inl ⟨by rfl, ?_⟩) (by with_reducible assumption) ?_; rotate_left 1; (· ((intro w hSw); (try dsimp only at hSw); first | (go_simp; done) | (go_simp; with_reducible rfl))); (try simp only [Act.put, List.setIfInBounds_toArray, List.set_cons_zero, List.set_cons_succ]))
      (refine take_at (i := 11) (d := some 18) (v := ?_) rfl (by rfl) (by kernel_rfl) (by kernel_rfl) (by kernel_rfl) (fun _ _ _ h => h) (Or.inl ⟨by rfl, ?_⟩) (by with_reducible assumption) ?_; rotate_left 1; (· ((intro w hSw); (try dsimp only at hSw); first | (go_simp; done) | (go_simp; with_reducible rfl))); (try simp only [Act.put, List.setIfInBounds_toArray, List.set_cons_zero, List.set_cons_succ]))
      refine wpAnyH_ready (rs := [13]) (by kernel_rfl) (by simp) ?_
      refine AllReadyH.cons rfl (fun K hK => ?_) AllReadyH.nil
      refine if_wp (by kernel_rfl) ?_
      refine wp_store_blok 26 (.tmp 5) (.tmp 17) rfl y 0 (staCells X).toArray rfl rfl hZ2 (by simp [staCells_len]) (by rw [sta_size]; simp [staCells_len]) (staCells_one X) ?_
      intro w2 B2 g2
      have b2 := bgrow bk2 g2 yz
      refine hK.out _ _ b2 (fun hHeld => ?_)
      clear hK K
      (try simp only [Act.put, List.setIfInBounds_toArray, List.set_cons_zero, List.set_cons_succ])
      (refine take_at (i := 14) (d := some 6) (v := ?_) rfl (by rfl) (by kernel_rfl) (by kernel_rfl) (by kernel_rfl) (fun _ _ _ h => h) (Or.inl ⟨by rfl, ?_⟩) (by with_reducible assumption) ?_; rotate_left 1; (· ((intro w hSw); (try dsimp only at hSw); first | (go_simp; done) | (go_simp; with_reducible rfl))); (try simp only [Act.put, List.setIfInBounds_toArray, List.set_cons_zero, List.set_cons_succ]))
      refine wpAnyH_done (by kernel_rfl) ?_ _
      go_wp2_with fail
      go_meet
      exact ⟨y, rfl, rfl, by simpa [staCells] using B2, yz, b2⟩
  case rest =>
    obtain ⟨y, rfl, rfl, hY, hy, hb⟩ := hcut
    have hW := h.below hb hlt
    have rX := cpu_range' hY
    cases ok
    · have e1 : R = (s, 201) := by rw [HR.out]; rfl
      have HE := Lib.hid e1
      clear e1
      go_wp2_with fail
      go_ret
      exact ⟨by rw [HE.out]; rfl, by rw [HE.out]; exact hW, grown_of hb _⟩
    · have e1 : R = (X, 0) := by rw [HR.out, HV.out]; rfl
      have HE := Lib.hid e1
      clear e1
      go_wp2_with (first | (refine wpList_load_sta rfl (.tmp 5) rfl y X rfl rX ?_) | (refine wpList_store_blok rfl 26 (.tmp 24) (.tmp 22) rfl g 0 (staCells X).toArray rfl rfl hW (by simp [staCells_len, cpuCells]) (by rw [sta_size]; simp [staCells_len]) (staCells_one X) ?_; intro w7 B7 g7 _z7))
      go_ret
      exact ⟨by rw [HE.out]; rfl, by rw [HE.out]; exact cpu_store B7, grown_then hb g7⟩
end Go.Proofs.Ytpfhplhamnohjaa
