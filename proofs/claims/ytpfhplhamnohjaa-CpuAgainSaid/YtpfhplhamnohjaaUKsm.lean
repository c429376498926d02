/- Layer 20: does. -/
import Derived.Test.YtpfhplhamnohjaaG13
import Derived.Test.YtpfhplhamnohjaaG14
namespace Go.Proofs.Ytpfhplhamnohjaa
set_option maxHeartbeats 25600000
set_option maxRecDepth 100000
open Go.RowKit

def cellI : Value → Int
  | .int _ n => n
  | _ => 0
def peCells : List PanicEntry → Array Value
  | [q] => (match q.v with | .iface _ (.agg cs) => cs | _ => #[])
  | _ => #[]
def peI (pe : List PanicEntry) (j : Nat) : Int := cellI ((peCells pe).getD j undef)
theorem ins_range {w : World} {g : Nat} {t : TypeId} {i : Ins} (h : Blok w g t (insCells i)) : w.rangeAt g 0 (insCells i) := h.range
/-- what region 1 of does leaves: the work, and a variable that points to it -/
def Work0 (W3 : World) (s : Sta) (b : Value) (at_ : Int) (i : Ins) (y z : Nat) (wx : World) : Prop :=
  W3.heap.size ≤ y ∧ W3.heap.size ≤ z ∧ y ≠ z ∧ Blok wx y 107 (workCells s s b at_ i false) ∧ Blok wx z 105 [.pointer (some ⟨y, 0, none⟩)] ∧ Below W3.heap.size W3 wx
theorem run_build_op {P : Program} {o : Oper} {a : Act} {w : World} {t : TypeId} {parts : Array (Nat × Operand)} {vals : Array (Nat × Value)} {v : Value} (ho : o.op = .build t parts) (hp : (parts.map fun q => (q.1, a.eval q.2)) = vals) (hb : (Instr.build t vals).run P w = .ok v w) :
    (execOp a.eval o).run P w = .ok (.value v) w := by
  subst hp
  unfold execOp
  simp only [ho]
  simp [hb]
theorem build_work (s : Sta) (T : TypeId) (V : Value) (at_ : Int) (i : Ins) (w : World) : (Instr.build 107 #[(0, .agg (staCells s).toArray), (1, .agg (staCells s).toArray), (2, .iface T V), (3, .int .u32 at_), (4, .agg (insCells i).toArray)]).run Try.prog w = .ok (.agg (workCells s s (.iface T V) at_ i false).toArray) w := by kernel_rfl
def doesS (s : Sta) (at_ : Int) : Out → Sta
  | .ok s' => s'
  | .un => entS s 27 ((at_ + 4) % 4294967296) 4
  | .ab _ => entS s 23 ((at_ + 8) % 4294967296) 16
def doesT (x : Tk) : Out → Tk
  | .ok _ => x
  | .un => { x with kind := 1 }
  | .ab pe => { x with kind := 4, va := peI pe 1, fk := peI pe 5, fl := peI pe 6, fd := peI pe 7, store := peI pe 0 == 3 }
def DoesPost {M : Type} (I : M → (Nat → Prop) → World → Prop) (O : Nat → Prop) (W : World) (gc tk : Nat) (tc tt : TypeId) (on : Bool) (m' : M) (sf : Sta) (xf : Tk) (e : Ending) (w' : World) : Prop :=
  e = .returned (.tuple #[]) ∧ Blok w' gc tc (cpuCells sf on) ∧ Blok w' tk tt (tkCells xf) ∧ ∃ O' : Nat → Prop, I m' O' w' ∧ GrownS W w' (fun j => j = gc ∨ j = tk ∨ O j) ∧ ∀ j, O' j → O j ∨ W.heap.size ≤ j
theorem method_call (op : Int) (x : Value) (w : World) : Sem.run Try.prog (callFunc (methodF op) #[x]) w = .ok (.enter (methodF op) #[x]) w := by
  unfold methodF
  repeat' split
  all_goals kernel_rfl
theorem does_is {T : TypeId} {V : Value} {M : Type} {I : M → (Nat → Prop) → World → Prop} {F : BusM M} {fA fC fR : Nat} (L : BusLaw T V I F fA fC fR) (m : M) (O : Nat → Prop)
    (s : Sta) (i : Ins) (on : Bool) (gc tk : Nat) (tc tt : TypeId) (x : Tk) (hs : OkS s) (hi : InsOk i) (W : World) (hc : Blok W gc tc (cpuCells s on)) (hx : Blok W tk tt (tkCells x)) (hI : I m O W) (hf : 16 ≤ F.fuel m) (hg : ¬ O gc) (ht : ¬ O tk) (hne : tk ≠ gc) (h1 : 1 ≤ i.op) (ha : 25 ≤ i.op → i.op ≤ 30 → i.amount < 4)
    (hab : ∀ pe, (execO F m s (set s 28 ((x.at_ + 4) % 4294967296)) x.at_ i).2 = .ab pe → ∃ kind va n v p y, pe = abortP kind va n v p y) :
    Calls Try.prog 29 #[.pointer (some ⟨gc, 0, none⟩), .iface T V, .agg #[.int .i64 i.cond, .int .i64 i.op, .bool i.s, .int .i64 i.form, .int .i64 i.rd, .int .i64 i.rn, .int .i64 i.rm, .int .i64 i.rs, .int .i64 i.ra, .int .u32 i.imm, .int .i64 i.shift, .int .i64 i.amount, .bool i.pre, .bool i.up, .bool i.write, .int .u16 i.list, .int .i64 i.crn, .int .i64 i.op1, .int .i64 i.crm, .int .i64 i.op2], .pointer (some ⟨tk, 0, none⟩)] W
      (DoesPost I O W gc tk tc tt on (execO F m s (set s 28 ((x.at_ + 4) % 4294967296)) x.at_ i).1 (doesS s x.at_ (execO F m s (set s 28 ((x.at_ + 4) % 4294967296)) x.at_ i).2) (doesT x (execO F m s (set s 28 ((x.at_ + 4) % 4294967296)) x.at_ i).2)) := by
  have hmf : ∀ (fn : Fn) (first cap : Array Value) (w : World), (Instr.makeFunc fn first cap).run Try.prog w = .ok (.func fn first cap) w := fun _ _ _ _ => rfl
  obtain ⟨W3, hW3⟩ : ∃ W3, W3 = ((W.alloc (.cells #[.pointer (some ⟨gc, 0, none⟩)] 29)).alloc (.cells #[.int .i64 i.cond, .int .i64 i.op, .bool i.s, .int .i64 i.form, .int .i64 i.rd, .int .i64 i.rn, .int .i64 i.rm, .int .i64 i.rs, .int .i64 i.ra, .int .u32 i.imm, .int .i64 i.shift, .int .i64 i.amount, .bool i.pre, .bool i.up, .bool i.write, .int .u16 i.list, .int .i64 i.crn, .int .i64 i.op1, .int .i64 i.crm, .int .i64 i.op2] 61)).alloc (.cells #[.pointer (some ⟨tk, 0, none⟩)] 93) := ⟨_, rfl⟩
  have b3 : Below W.heap.size W W3 := by rw [hW3]; exact (((Below.refl _ _).alloc (Nat.le_refl _) _).alloc (by simp) _).alloc (by simp; omega) _
  have p0 : Blok W3 W.heap.size 29 [.pointer (some ⟨gc, 0, none⟩)] := by rw [hW3]; exact ((Blok.new W 29 [.pointer (some ⟨gc, 0, none⟩)]).alloc _).alloc _
  have p1 : Blok W3 (W.heap.size + 1) 61 (insCells i) := by
    rw [hW3]
    have q := (Blok.new (W.alloc (.cells #[.pointer (some ⟨gc, 0, none⟩)] 29)) 61 (insCells i)).alloc (.cells #[.pointer (some ⟨tk, 0, none⟩)] 93)
    rwa [show (W.alloc (.cells #[.pointer (some ⟨gc, 0, none⟩)] 29)).heap.size = W.heap.size + 1 by simp] at q
  have p2 : Blok W3 (W.heap.size + 1 + 1) 93 [.pointer (some ⟨tk, 0, none⟩)] := by
    rw [hW3]
    have q := Blok.new ((W.alloc (.cells #[.pointer (some ⟨gc, 0, none⟩)] 29)).alloc (.cells #[.int .i64 i.cond, .int .i64 i.op, .bool i.s, .int .i64 i.form, .int .i64 i.rd, .int .i64 i.rn, .int .i64 i.rm, .int .i64 i.rs, .int .i64 i.ra, .int .u32 i.imm, .int .i64 i.shift, .int .i64 i.amount, .bool i.pre, .bool i.up, .bool i.write, .int .u16 i.list, .int .i64 i.crn, .int .i64 i.op1, .int .i64 i.crm, .int .i64 i.op2] 61)) 93 [.pointer (some ⟨tk, 0, none⟩)]
    rwa [show ((W.alloc (.cells #[.pointer (some ⟨gc, 0, none⟩)] 29)).alloc (.cells #[.int .i64 i.cond, .int .i64 i.op, .bool i.s, .int .i64 i.form, .int .i64 i.rd, .int .i64 i.rn, .int .i64 i.rm, .int .i64 i.rs, .int .i64 i.ra, .int .u32 i.imm, .int .i64 i.shift, .int .i64 i.amount, .bool i.pre, .bool i.up, .bool i.write, .int .u16 i.list, .int .i64 i.crn, .int .i64 i.op1, .int .i64 i.crm, .int .i64 i.op2] 61)).heap.size = W.heap.size + 1 + 1 by simp] at q
  have hc3 := hc.below b3 hc.lt
  have hx3 := hx.below b3 hx.lt
  have rS := cpu_range hc3
  have rI := ins_range p1
  have a0 : W3.cell? ⟨W.heap.size, 0, none⟩ = some (.pointer (some ⟨gc, 0, none⟩)) := p0.cell 0
  have a2 : W3.cell? ⟨W.heap.size + 1 + 1, 0, none⟩ = some (.pointer (some ⟨tk, 0, none⟩)) := p2.cell 0
  have x1 : W3.cell? ⟨tk, 1, none⟩ = some (.int .u32 x.at_) := hx3.cell 1
  have hs2 : OkS (set s 28 ((x.at_ + 4) % 4294967296)) := okS_set hs 28 (by omega)
  have EX := Lib.hid (fun w' g (k : Blok w' g 107 (workCells s (set s 28 ((x.at_ + 4) % 4294967296)) (.iface T V) x.at_ i false)) (hI' : I m O w') (hg' : ¬ O g) => exec_is L m O s (set s 28 ((x.at_ + 4) % 4294967296)) x.at_ i false g 107 hs hs2 hi h1 ha w' k hI' hg' hf)
  clear hf
  generalize execO F m s (set s 28 ((x.at_ + 4) % 4294967296)) x.at_ i = r at EX hab ⊢
  obtain ⟨m', r⟩ := r
  dsimp only at EX hab ⊢
  have MI := Lib.hid (fun W => method_is i.op W)
  have MC := Lib.hid (method_call i.op)
  generalize methodF i.op = mf at EX MI MC
  go_enter_defers Try.func29, Try.ntmps29
  go_upto_region 1 with fail
  rw [← hW3]
  clear hW3
  generalize Value.agg #[.int .i64 i.cond, .int .i64 i.op, .bool i.s, .int .i64 i.form, .int .i64 i.rd, .int .i64 i.rn, .int .i64 i.rm, .int .i64 i.rs, .int .i64 i.ra, .int .u32 i.imm, .int .i64 i.shift, .int .i64 i.amount, .bool i.pre, .bool i.up, .bool i.write, .int .u16 i.list, .int .i64 i.crn, .int .i64 i.op1, .int .i64 i.crm, .int .i64 i.op2] = vi
  go_cut [8] from 9 (fun s8 wx => ∃ y z : Nat, s8 = .pointer (some ⟨z, 0, none⟩) ∧ Work0 W3 s (.iface T V) x.at_ i y z wx)
  case first =>
    refine wp_region_noPanic ?_
    refine wp_region_held_drew (S := fun w' => Below W3.heap.size W3 w') (by kernel_rfl) (bdrew (Below.refl _ _)) (fun hHeld => ?_)
    have d0 : ∀ w', Below W3.heap.size W3 w' → w'.cell? ⟨W.heap.size, 0, none⟩ = some (.pointer (some ⟨gc, 0, none⟩)) := fun w' k => (k.cell p0.lt).trans a0
    have d2 : ∀ w', Below W3.heap.size W3 w' → w'.cell? ⟨W.heap.size + 1 + 1, 0, none⟩ = some (.pointer (some ⟨tk, 0, none⟩)) := fun w' k => (k.cell p2.lt).trans a2
    have dx : ∀ w', Below W3.heap.size W3 w' → w'.cell? ⟨tk, 1, none⟩ = some (.int .u32 x.at_) := fun w' k => (k.cell hx3.lt).trans x1
    (refine take_at (i := 0) (d := some 9) (v := ?_) rfl (by rfl) (by kernel_rfl) (by kernel_rfl) (by kernel_rfl) (fun _ _ _ h => h) (Or.inl ⟨by rfl, ?_⟩) (by with_reducible assumption) ?_; rotate_left 1; (· ((intro w hSw); (try dsimp only at hSw); first | (go_simp; done) | (go_simp; with_reducible rfl))); (try simp only [Act.put, List.setIfInBounds_toArray, List.set_cons_zero, List.set_cons_succ]))
    (refine take_at (i := 1) (d := some 10) (v := ?_) rfl (by rfl) (by kernel_rfl) (by kernel_rfl) (by kernel_rfl) (fun _ _ _ h => h) (Or.inl ⟨by rfl, ?_⟩) (by with_reducible assumption) ?_; rotate_left 1; (· ((intro w hSw); (try dsimp only at hSw); first | (go_simp; done) | (go_simp; with_reducible rfl))); (try simp only [Act.put, List.setIfInBounds_toArray, List.set_cons_zero, List.set_cons_succ]))
    (refine take_at (i := 2) (d := some 11) (v := ?_) rfl (by rfl) (by kernel_rfl) (by kernel_rfl) (by kernel_rfl) (fun _ _ _ h => h) (Or.inl ⟨by rfl, ?_⟩) (by with_reducible assumption) ?_; rotate_left 1; (· ((intro w hSw); (try dsimp only at hSw); first | (go_simp; done) | (go_simp; with_reducible rfl))); (try simp only [Act.put, List.setIfInBounds_toArray, List.set_cons_zero, List.set_cons_succ]))
    (refine take_at (i := 3) (d := some 12) (v := .agg (staCells s).toArray) rfl (by rfl) (by kernel_rfl) (by kernel_rfl) (by kernel_rfl) (fun _ _ _ h => h) ?_ (by with_reducible assumption) ?_; (· (exact yieldsIf_load_mid (by rfl) 26 _ rfl gc 0 rfl (staCells s) _ (fun w' k => cpu_range (hc3.below k hc3.lt)) Try.underlying26 rfl (by rw [sta_size, staCells_len]))); (try simp only [Act.put, List.setIfInBounds_toArray, List.set_cons_zero, List.set_cons_succ]))
    (refine take_at (i := 4) (d := some 13) (v := ?_) rfl (by rfl) (by kernel_rfl) (by kernel_rfl) (by kernel_rfl) (fun _ _ _ h => h) (Or.inl ⟨by rfl, ?_⟩) (by with_reducible assumption) ?_; rotate_left 1; (· ((intro w hSw); (try dsimp only at hSw); first | (go_simp; done) | (go_simp; with_reducible rfl))); (try simp only [Act.put, List.setIfInBounds_toArray, List.set_cons_zero, List.set_cons_succ]))
    (refine take_at (i := 5) (d := some 14) (v := ?_) rfl (by rfl) (by kernel_rfl) (by kernel_rfl) (by kernel_rfl) (fun _ _ _ h => h) (Or.inl ⟨by rfl, ?_⟩) (by with_reducible assumption) ?_; rotate_left 1; (· ((intro w hSw); (try dsimp only at hSw); first | (go_simp; done) | (go_simp; with_reducible rfl))); (try simp only [Act.put, List.setIfInBounds_toArray, List.set_cons_zero, List.set_cons_succ]))
    (refine take_at (i := 6) (d := some 15) (v := ?_) rfl (by rfl) (by kernel_rfl) (by kernel_rfl) (by kernel_rfl) (fun _ _ _ h => h) (Or.inl ⟨by rfl, ?_⟩) (by with_reducible assumption) ?_; rotate_left 1; (· ((intro w hSw); (try dsimp only at hSw); first | (go_simp; done) | (go_simp; with_reducible rfl))); (try simp only [Act.put, List.setIfInBounds_toArray, List.set_cons_zero, List.set_cons_succ]))
    (refine take_at (i := 7) (d := some 16) (v := .agg (staCells s).toArray) rfl (by rfl) (by kernel_rfl) (by kernel_rfl) (by kernel_rfl) (fun _ _ _ h => h) ?_ (by with_reducible assumption) ?_; (· (exact yieldsIf_load_mid (by rfl) 26 _ rfl gc 0 rfl (staCells s) _ (fun w' k => cpu_range (hc3.below k hc3.lt)) Try.underlying26 rfl (by rw [sta_size, staCells_len]))); (try simp only [Act.put, List.setIfInBounds_toArray, List.set_cons_zero, List.set_cons_succ]))
    (refine take_at (i := 8) (d := some 17) (v := ?_) rfl (by rfl) (by kernel_rfl) (by kernel_rfl) (by kernel_rfl) (fun _ _ _ h => h) (Or.inl ⟨by rfl, ?_⟩) (by with_reducible assumption) ?_; rotate_left 1; (· ((intro w hSw); (try dsimp only at hSw); first | (go_simp; done) | (go_simp; with_reducible rfl))); (try simp only [Act.put, List.setIfInBounds_toArray, List.set_cons_zero, List.set_cons_succ]))
    (refine take_at (i := 9) (d := some 18) (v := ?_) rfl (by rfl) (by kernel_rfl) (by kernel_rfl) (by kernel_rfl) (fun _ _ _ h => h) (Or.inl ⟨by rfl, ?_⟩) (by with_reducible assumption) ?_; rotate_left 1; (· ((intro w hSw); (try dsimp only at hSw); first | (go_simp; done) | (go_simp; with_reducible rfl))); (try simp only [Act.put, List.setIfInBounds_toArray, List.set_cons_zero, List.set_cons_succ]))
    (refine take_at (i := 10) (d := some 19) (v := ?_) rfl (by rfl) (by kernel_rfl) (by kernel_rfl) (by kernel_rfl) (fun _ _ _ h => h) (Or.inl ⟨by rfl, ?_⟩) (by with_reducible assumption) ?_; rotate_left 1; (· ((intro w hSw); (try dsimp only at hSw); first | (go_simp; done) | (go_simp; with_reducible rfl))); (try simp only [Act.put, List.setIfInBounds_toArray, List.set_cons_zero, List.set_cons_succ]))
    (refine take_at (i := 11) (d := some 20) (v := ?_) rfl (by rfl) (by kernel_rfl) (by kernel_rfl) (by kernel_rfl) (fun _ _ _ h => h) (Or.inl ⟨by rfl, ?_⟩) (by with_reducible assumption) ?_; rotate_left 1; (· ((intro w hSw); (try dsimp only at hSw); first | (go_simp; done) | (go_simp; with_reducible rfl))); (try simp only [Act.put, List.setIfInBounds_toArray, List.set_cons_zero, List.set_cons_succ]))
    (refine take_at (i := 12) (d := some 21) (v := ?_) rfl (by rfl) (by kernel_rfl) (by kernel_rfl) (by kernel_rfl) (fun _ _ _ h => h) (Or.inl ⟨by rfl, ?_⟩) (by with_reducible assumption) ?_; rotate_left 1; (· ((intro w hSw); (try dsimp only at hSw); first | (go_simp; done) | (go_simp; with_reducible rfl))); (try simp only [Act.put, List.setIfInBounds_toArray, List.set_cons_zero, List.set_cons_succ]))
    (refine take_at (i := 13) (d := some 22) (v := .agg (insCells i).toArray) rfl (by rfl) (by kernel_rfl) (by kernel_rfl) (by kernel_rfl) (fun _ _ _ h => h) ?_ (by with_reducible assumption) ?_; (· (exact yieldsIf_load_mid (by rfl) 61 _ rfl (W.heap.size + 1) 0 rfl (insCells i) _ (fun w' k => ins_range (p1.below k p1.lt)) Try.underlying61 rfl (by rw [ins_size, insCells_len]))); (try simp only [Act.put, List.setIfInBounds_toArray, List.set_cons_zero, List.set_cons_succ]))
    refine take_at (i := 14) (d := some 23) (v := .agg (workCells s s (.iface T V) x.at_ i false).toArray) rfl (by rfl) (by kernel_rfl) (by kernel_rfl) (by kernel_rfl) (fun _ _ _ h => h) (Or.inl ⟨by rfl, fun w _ => by kernel_rfl⟩) (by with_reducible assumption) ?_
    (try simp only [Act.put, List.setIfInBounds_toArray, List.set_cons_zero, List.set_cons_succ])
    refine wpAnyH_ready (rs := [15, 16]) (by kernel_rfl) (by simp) ?_
    refine AllReadyH.cons rfl (fun K hK => ?_) (AllReadyH.cons rfl (fun K hK => ?_) AllReadyH.nil)
    · go_simp
      have hY : Blok (World.drew (W3.alloc (.cells (workCells s s (.iface T V) x.at_ i false).toArray 107))) W3.heap.size 107 (workCells s s (.iface T V) x.at_ i false) := (Blok.new W3 107 _).drewN 1
      have b1 : Below W3.heap.size W3 (World.drew (W3.alloc (.cells (workCells s s (.iface T V) x.at_ i false).toArray 107))) := bdrew ((Below.refl _ _).alloc (Nat.le_refl _) _)
      generalize World.drew (W3.alloc (.cells (workCells s s (.iface T V) x.at_ i false).toArray 107)) = V1 at hY b1 ⊢
      refine hK.out _ _ b1 (fun hHeld => ?_)
      clear hK K
      (try simp only [Act.put, List.setIfInBounds_toArray, List.set_cons_zero, List.set_cons_succ])
      refine wpAnyH_ready (rs := [16]) (by kernel_rfl) (by simp) ?_
      refine AllReadyH.cons rfl (fun K hK => ?_) AllReadyH.nil
      go_simp
      refine hK.out _ _ (b1.alloc b1.size _) (fun hHeld => ?_)
      clear hK K
      (try simp only [Act.put, List.setIfInBounds_toArray, List.set_cons_zero, List.set_cons_succ])
      refine wpAnyH_ready (rs := [17]) (by kernel_rfl) (by simp) ?_
      refine AllReadyH.cons rfl (fun K hK => ?_) AllReadyH.nil
      go_simp
      refine hK.out _ _ (b1.alloc b1.size _) (fun hHeld => ?_)
      clear hK K
      (try simp only [Act.put, List.setIfInBounds_toArray, List.set_cons_zero, List.set_cons_succ])
      refine wpAnyH_done (by kernel_rfl) (NoPanic.normal ?_) _
      go_wp2_with fail
      go_meet
      exact ⟨W3.heap.size, V1.heap.size, rfl, Nat.le_refl _, b1.size, Nat.ne_of_lt hY.lt, hY.alloc _, Blok.new V1 105 [.pointer (some ⟨W3.heap.size, 0, none⟩)], b1.alloc b1.size _⟩
    · go_simp
      have hZ : Blok (World.drew (W3.alloc (.cells #[.pointer none] 105))) W3.heap.size 105 [.pointer none] := (Blok.new W3 105 [.pointer none]).drewN 1
      have b1 : Below W3.heap.size W3 (World.drew (W3.alloc (.cells #[.pointer none] 105))) := bdrew ((Below.refl _ _).alloc (Nat.le_refl _) _)
      generalize World.drew (W3.alloc (.cells #[.pointer none] 105)) = V1 at hZ b1 ⊢
      refine hK.out _ _ b1 (fun hHeld => ?_)
      clear hK K
      (try simp only [Act.put, List.setIfInBounds_toArray, List.set_cons_zero, List.set_cons_succ])
      refine wpAnyH_ready (rs := [15]) (by kernel_rfl) (by simp) ?_
      refine AllReadyH.cons rfl (fun K hK => ?_) AllReadyH.nil
      go_simp
      have hY := Blok.new V1 107 (workCells s s (.iface T V) x.at_ i false)
      have hZ2 := hZ.alloc (.cells (workCells s s (.iface T V) x.at_ i false).toArray 107)
      have b2 : Below W3.heap.size W3 (V1.alloc (.cells (workCells s s (.iface T V) x.at_ i false).toArray 107)) := b1.alloc b1.size _
      have hyz : W3.heap.size < V1.heap.size := hZ.lt
      generalize V1.alloc (.cells (workCells s s (.iface T V) x.at_ i false).toArray 107) = V2 at hY hZ2 b2 ⊢
      generalize V1.heap.size = y at hY hyz ⊢
      have z0 := hZ2.cell 0
      have zf := hZ2.frozen 0
      simp only [List.getElem?_cons_zero] at z0
      refine hK.out _ _ b2 (fun hHeld => ?_)
      clear hK K
      (try simp only [Act.put, List.setIfInBounds_toArray, List.set_cons_zero, List.set_cons_succ])
      refine wpAnyH_ready (rs := [17]) (by kernel_rfl) (by simp) ?_
      refine AllReadyH.cons rfl (fun K hK => ?_) AllReadyH.nil
      go_simp
      have b3' : Below W3.heap.size W3 (V2.setCell ⟨W3.heap.size, 0, none⟩ (.pointer (some ⟨y, 0, none⟩))) := bgrow b2 (grown_one _ _ _ _) (Nat.le_refl _)
      refine hK.out _ _ b3' (fun hHeld => ?_)
      clear hK K
      (try simp only [Act.put, List.setIfInBounds_toArray, List.set_cons_zero, List.set_cons_succ])
      refine wpAnyH_done (by kernel_rfl) (NoPanic.normal ?_) _
      go_wp2_with fail
      go_meet
      exact ⟨y, W3.heap.size, rfl, Nat.le_of_lt hyz, Nat.le_refl _, Nat.ne_of_gt hyz, hY.far (Nat.ne_of_gt hyz) _, hZ2.set_ 0 _, b3'⟩
  case rest =>
    obtain ⟨y, z, rfl, hy, hz, hyz, hW, hZ, hb⟩ := hcut
    have z0 := hZ.cell 0
    simp only [List.getElem?_cons_zero] at z0
    have b2 : wc.cell? ⟨W.heap.size + 1 + 1, 0, none⟩ = some (.pointer (some ⟨tk, 0, none⟩)) := (hb.cell p2.lt).trans a2
    have xt : wc.cell? ⟨tk, 1, none⟩ = some (.int .u32 x.at_) := (hb.cell hx3.lt).trans x1
    have d58 : wc.cell? ⟨y, 58, none⟩ = some (.int .u32 (s 28)) := work_new hW 28 (by omega)
    have f58 := hW.frozen 58
    go_upto_region 2 with fail
    (refine wp_region_tail 9 (by kernel_rfl) (by kernel_rfl) ?_; simp only [List.take_succ_cons, List.take_zero, List.drop_succ_cons, List.drop_zero]; (repeat still_step); (try refine wpStill_nil ?_))
    go_upto_region 4 with fail
    have hW5 : Blok (World.drew (wc.setCell ⟨y, 58, none⟩ (.int .u32 ((x.at_ + 4) % 4294967296)))) y 107 (workCells s (set s 28 ((x.at_ + 4) % 4294967296)) (.iface T V) x.at_ i false) := (hW.setwork 28 (by omega) _).drewN 1
    have hZ5 : Blok (World.drew (wc.setCell ⟨y, 58, none⟩ (.int .u32 ((x.at_ + 4) % 4294967296)))) z 105 [.pointer (some ⟨y, 0, none⟩)] := (hZ.far (fun e => hyz e.symm) _).drewN 1
    have b5 : Below W3.heap.size W3 (World.drew (wc.setCell ⟨y, 58, none⟩ (.int .u32 ((x.at_ + 4) % 4294967296)))) := bdrew (bgrow hb (grown_one _ _ _ _) hy)
    clear z0 b2 xt d58 f58 hW hZ hb
    generalize World.drew (wc.setCell ⟨y, 58, none⟩ (.int .u32 ((x.at_ + 4) % 4294967296))) = V5 at hW5 hZ5 b5 ⊢
    have op1 : ∀ m, (grow V5 m).cell? ⟨W.heap.size + 1, 1, none⟩ = some (.int .i64 i.op) := fun m => (p1.below (bthen b5 (grow_below V5 m)) p1.lt).cell 1
    have zz : ∀ m, (grow V5 m).cell? ⟨z, 0, none⟩ = some (.pointer (some ⟨y, 0, none⟩)) := fun m => (hZ5.below (grow_below V5 m) hZ5.lt).cell 0
    (refine wp_region_grow_tail 4 (by kernel_rfl) (by kernel_rfl) ?_; simp only [List.take_succ_cons, List.take_zero, List.drop_succ_cons, List.drop_zero]; (repeat (go_big_quiet_step (((go_at_call 36; exact calls_grow (MI.out _)))))); refine wpQuiet_nil ?_; intro _ hw'; obtain ⟨ew, hw''⟩ := hw'; subst hw'')
    have hW6 := hW5.below (grow_below V5 ew) hW5.lt
    have hZ6 := hZ5.below (grow_below V5 ew) hZ5.lt
    have b6 := bthen b5 (grow_below V5 ew)
    have bW : Below W.heap.size W (grow V5 ew) := b3.trans (b6.mono b3.size)
    have hI6 := L.keep m O W (grow V5 ew) (fun _ => False) hI (GrownS.ofBelow bW) (fun _ _ q => q)
    have hyO : ¬ O y := fun q => by have := L.old _ _ _ _ hI q; have := b3.size; omega
    clear op1 zz hW5 hZ5 b5
    generalize grow V5 ew = V6 at hW6 hZ6 b6 bW hI6 ⊢
    have mc := MC.out
    have nb : ∀ j, j < W3.heap.size → ¬ O j → ¬ (j = y ∨ O j) := fun j hj ho q => q.elim (fun e => by omega) ho
    have oS : ∀ j, W.heap.size ≤ j → ¬ O j := fun j hj q => by have := L.old _ _ _ _ hI q; omega
    have s3 := p2.lt
    have c6 : V6.cell? ⟨W.heap.size, 0, none⟩ = some (.pointer (some ⟨gc, 0, none⟩)) := (b6.cell p0.lt).trans a0
    have t6 : V6.cell? ⟨W.heap.size + 1 + 1, 0, none⟩ = some (.pointer (some ⟨tk, 0, none⟩)) := (b6.cell p2.lt).trans a2
    have hc6 := hc3.below b6 hc3.lt
    have hx6 := hx3.below b6 hx3.lt
    have z6 := hZ6.cell 0
    simp only [List.getElem?_cons_zero] at z6
    have s6 := b6.size
    have gz := hZ6.lt
    have AFT := Lib.hid (fun w7 (g7 : GrownS V6 w7 (fun j => j = y ∨ O j)) =>
      (⟨(g7.cell (by omega) (nb _ p0.lt (oS _ (Nat.le_refl _)))).trans c6, (g7.cell (by omega) (nb _ p2.lt (oS _ (by omega)))).trans t6, (g7.cell gz (fun q => q.elim (fun e => hyz e.symm) (oS _ (by omega)))).trans z6, hc6.gs g7 (nb _ hc3.lt hg), hx6.gs g7 (nb _ hx3.lt ht)⟩ :
        w7.cell? ⟨W.heap.size, 0, none⟩ = some (.pointer (some ⟨gc, 0, none⟩)) ∧ w7.cell? ⟨W.heap.size + 1 + 1, 0, none⟩ = some (.pointer (some ⟨tk, 0, none⟩)) ∧ w7.cell? ⟨z, 0, none⟩ = some (.pointer (some ⟨y, 0, none⟩)) ∧ Blok w7 gc tc (cpuCells s on) ∧ Blok w7 tk tt (tkCells x)))
    have gW : ∀ w7, GrownS V6 w7 (fun j => j = y ∨ O j) → GrownS W w7 (fun j => j = gc ∨ j = tk ∨ O j) := fun w7 g7 =>
      ⟨g7.os.trans bW.os, g7.tape.trans bW.tape, g7.output.trans bW.output, Nat.le_trans bW.size g7.size, fun j hj hn => (g7.block j (Nat.lt_of_lt_of_le hj bW.size) (fun q => q.elim (fun e => by have := b3.size; omega) (fun o => hn (Or.inr (Or.inr o))))).trans (bW.block j hj)⟩
    have hct : ∀ (O' : Nat → Prop), (∀ j, O' j → O j ∨ V6.heap.size ≤ j) → ∀ j, j = gc ∨ j = tk → ¬ O' j := fun O' k7 j e q => (k7 j q).elim (fun o => e.elim (fun e => hg (e ▸ o)) (fun e => ht (e ▸ o))) (fun l => by have := hc6.lt; have := hx6.lt; omega)
    have oW : ∀ O' : Nat → Prop, (∀ j, O' j → O j ∨ V6.heap.size ≤ j) → ∀ j, O' j → O j ∨ W.heap.size ≤ j := fun O' k7 j q => (k7 j q).imp id (fun l => Nat.le_trans bW.size l)
    clear c6 t6 z6 nb
    cases r with
    | ok s' =>
      go_wp2_with ((with_reducible refine (EX.out _ y hW6 hI6 hyO).mono ?_); rintro e w7 ⟨he, B7, O', hI7, g7, k7⟩; simp only [Out.ending] at he; subst he)
      obtain ⟨q1, q2, q3, q4, q5⟩ := AFT.out w7 g7
      change Blok w7 y _ (workCells s s' _ _ _ _) at B7
      refine leaves_cons (f := 35) (args := #[.pointer (some ⟨z, 0, none⟩), .pointer (some ⟨W.heap.size, 0, none⟩), .pointer (some ⟨W.heap.size + 1 + 1, 0, none⟩)]) (by simp) (by simp [go_sem]) ?_
      refine (does1_idle z W.heap.size (W.heap.size + 1 + 1) y gc _ tc s s' s (.iface T V) x.at_ i false on w7 q3 q1 B7 q4).mono ?_
      rintro e u' w8 ⟨rfl, rfl, hB8, g8⟩
      exact ⟨_, results_none rfl _ _ _, rfl, hB8, q5.grown g8 (fun e => hne (Option.some.inj e)), O', L.keep m' O' w7 w8 (fun j => j = gc) hI7 (GrownS.ofOne g8 rfl) (fun j q e => hct O' k7 j (Or.inl e) q), (gW w7 g7).trans (GrownS.ofOne g8 (Or.inl rfl)), oW O' k7⟩
    | un =>
      go_wp2_with ((with_reducible refine (EX.out _ y hW6 hI6 hyO).mono ?_); rintro e w7 ⟨he, B7, O', hI7, g7, k7⟩; simp only [Out.ending] at he; subst he)
      obtain ⟨q1, q2, q3, q4, q5⟩ := AFT.out w7 g7
      refine leaves_cons (f := 35) (args := #[.pointer (some ⟨z, 0, none⟩), .pointer (some ⟨W.heap.size, 0, none⟩), .pointer (some ⟨W.heap.size + 1 + 1, 0, none⟩)]) (by simp) (by simp [go_sem]) ?_
      refine (does1_undef z W.heap.size (W.heap.size + 1 + 1) gc tk tc tt s x on w7 q1 q2 q4 q5 (by have := hc.lt; omega) hne).mono ?_
      rintro e u' w8 ⟨rfl, rfl, hB8, hT8, g8⟩
      exact ⟨_, results_none rfl _ _ _, rfl, hB8, hT8, O', L.keep m' O' w7 w8 (fun j => j = gc ∨ j = tk) hI7 g8 (fun j q e => hct O' k7 j e q), (gW w7 g7).trans (grownS_mono g8 (fun j q => q.imp id (fun e => Or.inl e))), oW O' k7⟩
    | ab pe =>
      obtain ⟨kind, va, n, v, p, yy, rfl⟩ := hab pe rfl
      go_wp2_with ((with_reducible refine (EX.out _ y hW6 hI6 hyO).mono ?_); rintro e w7 ⟨he, B7, O', hI7, g7, k7⟩; simp only [Out.ending] at he; subst he)
      obtain ⟨q1, q2, q3, q4, q5⟩ := AFT.out w7 g7
      refine leaves_cons (f := 35) (args := #[.pointer (some ⟨z, 0, none⟩), .pointer (some ⟨W.heap.size, 0, none⟩), .pointer (some ⟨W.heap.size + 1 + 1, 0, none⟩)]) (by simp) (by simp [go_sem]) ?_
      refine (does1_abort z W.heap.size (W.heap.size + 1 + 1) gc tk tc tt s x on kind va n v p yy w7 q1 q2 q4 q5 (by have := hc.lt; omega) (by have := hx.lt; omega) hne).mono ?_
      rintro e u' w8 ⟨rfl, rfl, hB8, hT8, g8⟩
      exact ⟨_, results_none rfl _ _ _, rfl, hB8, hT8, O', L.keep m' O' w7 w8 (fun j => j = gc ∨ j = tk) hI7 g8 (fun j q e => hct O' k7 j e q), (gW w7 g7).trans (grownS_mono g8 (fun j q => q.imp id (fun e => Or.inl e))), oW O' k7⟩
end Go.Proofs.Ytpfhplhamnohjaa
