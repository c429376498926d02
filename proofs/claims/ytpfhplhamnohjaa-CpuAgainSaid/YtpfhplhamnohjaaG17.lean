/- Layer 20: a step leaves a state of words. No program is in sight here. Layer 20: the law's made. Layer 20: the law's made. Layer 20: the law's live over plain data. No program is in sight here. Layer 20: the law's live. -/
import Derived.Test.YtpfhplhamnohjaaUKwm
import Derived.Test.YtpfhplhamnohjaaG09
import Derived.Test.YtpfhplhamnohjaaG08
import Derived.ChangeKeysEq
import Derived.Test.YtpfhplhamnohjaaG16
namespace Go.Proofs.Ytpfhplhamnohjaa
open Go.RowKit

theorem smallW_u (op x t : Int) : 0 ≤ smallW op x t ∧ smallW op x t < 4294967296 := by
  unfold smallW
  split
  · omega
  split
  · unfold revI; exact bits32 _ _ _
  split
  · exact bits32 _ _ _
  split
  · exact bits32 _ _ _
  split <;> omega
theorem extI_u (op x : Int) (hx : 0 ≤ x ∧ x < 4294967296) : 0 ≤ extI op x ∧ extI op x < 4294967296 := by
  unfold extI
  split
  · omega
  split
  · omega
  · exact hx
theorem okS_back {s : Sta} (h : OkS s) (v : Int) : OkS (backT s v) := by
  have b := bankW_lt (s 29)
  exact okS_set (okS_set h _ (h _ (by omega))) _ (bits32 _ _ _)
theorem okS_ent {s : Sta} (h : OkS s) (m : Int) {b v : Int} (hb : 0 ≤ b ∧ b < 4294967296) (hv : 0 ≤ v ∧ v < 4294967296) : OkS (entS s m b v) :=
  okS_set (okS_set (okS_set (okS_set h _ (h 29 (by omega))) _ hb) _ (bits32 _ _ _)) _ hv
section
variable {M : Type} (F : BusM M) (hval : ∀ m kind va n v p, 0 ≤ (F.acc m kind va n v p).2.val ∧ (F.acc m kind va n v p).2.val < 4294967296) (hgot : ∀ m i u, 0 ≤ (F.mrc m i u).2.1 ∧ (F.mrc m i u).2.1 < 4294967296)
include hval in
theorem mrun_ok (m : M) (o : Sta) (at_ : Int) (i : Ins) : ∀ k st, mrun F m o at_ i k = .ok st → ∀ j, 0 ≤ st.2.2 j ∧ st.2.2 j < 4294967296
  | 0, st, h => by
    have e : (m, manyAt o at_ i, fun _ => 0) = st := Except.ok.inj h
    rw [← e]; intro j; show (0 : Int) ≤ 0 ∧ (0 : Int) < 4294967296; omega
  | k + 1, st, h => by
    unfold mrun at h
    cases q : mrun F m o at_ i k with
    | error e => rw [q] at h; cases h
    | ok s1 =>
      rw [q] at h
      have ih := mrun_ok m o at_ i k s1 q
      dsimp only at h
      unfold mstep at h
      by_cases hz : bt16 i.list k = 0
      · rw [if_pos hz] at h
        have e := Except.ok.inj h
        rw [← e]; exact ih
      rw [if_neg hz] at h
      dsimp only at h
      by_cases ho : (F.acc s1.1 (if i.op = 39 then 2 else 3) s1.2.1 4 (if i.op = 39 then 0 else getI o at_ k) (!userB o)).2.ok = true
      · rw [if_pos ho] at h
        have e := Except.ok.inj h
        rw [← e]
        intro j
        dsimp only
        split
        · unfold set
          split
          · exact hval _ _ _ _ _ _
          · exact ih j
        · exact ih j
      · rw [if_neg ho] at h; cases h
include hval hgot in
theorem exec_okS (m : M) (o s : Sta) (at_ : Int) (i : Ins) (ho : OkS o) (hs : OkS s) (hi : InsOk i) (s' : Sta) (h : (execO F m o s at_ i).2 = .ok s') : OkS s' := by
  unfold execO at h
  have oo : ∀ r : Option Sta, outOf r = .ok s' → r = some s' := fun r e => by
    cases r with
    | none => cases e
    | some x => simp only [outOf, Out.ok.injEq] at e; rw [e]
  by_cases h16 : i.op ≤ 16
  · rw [if_pos h16] at h
    have e := oo _ h
    unfold dataS at e
    split at e
    · split at e
      · rw [← Option.some.inj e]; exact okS_back hs _
      · cases e
    · rw [← Option.some.inj e]
      have P : OkS (if doB i.op then putS s i.rd (dataW o at_ i) else s) := by
        split
        · exact okS_put hs _ (dataW_u o at_ i ho hi)
        · exact hs
      split
      · exact okS_mark P _
      · exact P
  rw [if_neg h16] at h
  by_cases h18 : i.op ≤ 18
  · rw [if_pos h18] at h; rw [← Out.ok.inj h]; exact okS_put hs _ (wideV_u o at_ i hi)
  rw [if_neg h18] at h
  by_cases h24 : i.op ≤ 24
  · rw [if_pos h24] at h; rw [← Out.ok.inj h]
    unfold prodS
    have L := fun a b c d => longI_u i.op a b c d
    split
    · dsimp only
      split
      · exact okS_mark (okS_put hs _ (L _ _ _ _).2) _
      · exact okS_put hs _ (L _ _ _ _).2
    · dsimp only
      split
      · exact okS_mark (okS_put (okS_put hs _ (L _ _ _ _).2) _ (L _ _ _ _).1) _
      · exact okS_put (okS_put hs _ (L _ _ _ _).2) _ (L _ _ _ _).1
  rw [if_neg h24] at h
  by_cases h30 : i.op ≤ 30
  · rw [if_pos h30] at h; rw [← Out.ok.inj h]; exact okS_put hs _ (smallW_u _ _ _)
  rw [if_neg h30] at h
  by_cases h38 : i.op ≤ 38
  · rw [if_pos h38] at h
    dsimp only at h
    split at h
    · rw [← Out.ok.inj h]
      have B : OkS (oneB o s at_ i) := by
        unfold oneB
        split
        · exact okS_put hs _ (by omega)
        · exact hs
      unfold oneS
      split
      · exact B
      · exact okS_put B _ (extI_u _ _ (hval _ _ _ _ _ _))
    · cases h
  rw [if_neg h38] at h
  by_cases h40 : i.op ≤ 40
  · rw [if_pos h40] at h
    unfold manyO at h
    cases q : mrun F m o at_ i 16 with
    | error e => rw [q] at h; cases h
    | ok st =>
      rw [q] at h
      rw [← Out.ok.inj h]
      refine okS_mputs ?_ i (mrun_ok F hval m o at_ i 16 st q) 16
      unfold manyW
      split
      · refine okS_put hs _ ?_
        unfold manyE
        split <;> omega
      · exact hs
  rw [if_neg h40] at h
  by_cases h44 : i.op ≤ 44
  · rw [if_pos h44] at h; rw [← Out.ok.inj h]
    unfold branchS
    have P : OkS (if i.op = 42 ∨ i.op = 44 then putS s 14 ((at_ + 4) % 4294967296) else s) := by
      split
      · exact okS_put hs _ (by omega)
      · exact hs
    unfold putS
    rw [if_pos rfl]
    exact okS_set P _ (bits32 _ _ _)
  rw [if_neg h44] at h
  by_cases h46 : i.op ≤ 46
  · rw [if_pos h46] at h; rw [← Out.ok.inj h]; exact hs
  rw [if_neg h46] at h
  by_cases h48 : i.op ≤ 48
  · rw [if_pos h48] at h
    have e := oo _ h
    have b := own_lt o
    unfold statS at e
    split at e
    · split at e
      · split at e
        · cases e
        · rw [← Option.some.inj e]; exact okS_put hs _ (ho _ (by omega))
      · rw [← Option.some.inj e]; exact okS_put hs _ (ho _ (by omega))
    split at e
    · split at e
      · cases e
      · rw [← Option.some.inj e]; exact okS_set hs _ (bits32 _ _ _)
    · have key : ∀ v : Int, (0 ≤ v ∧ v < 4294967296) → (if (bankB (v % 32)).2 = true then some (set s 29 v) else none) = some s' → OkS s' := fun v hv e => by
        split at e
        · rw [← Option.some.inj e]; exact okS_set hs _ hv
        · cases e
      exact key _ (bits32 _ _ _) e
  rw [if_neg h48] at h
  by_cases h49 : i.op = 49
  · rw [if_pos h49] at h
    dsimp only at h
    split at h
    · rw [← Out.ok.inj h]; exact hs
    · cases h
  rw [if_neg h49] at h
  by_cases h50 : i.op = 50
  · rw [if_pos h50] at h
    dsimp only at h
    split at h
    · rw [← Out.ok.inj h]; exact okS_put hs _ (hgot _ _ _)
    · cases h
  rw [if_neg h50] at h
  rw [← Out.ok.inj h]; exact hs
include hval hgot in
theorem step_okS (m : M) (s : Sta) (on : Bool) (hs : OkS s) : OkS (stepO F m s on).2.1 := by
  have h4 : ∀ x : Int, 0 ≤ (x + 4) % 4294967296 ∧ (x + 4) % 4294967296 < 4294967296 := fun x => by omega
  have h8 : ∀ x : Int, 0 ≤ (x + 8) % 4294967296 ∧ (x + 8) % 4294967296 < 4294967296 := fun x => by omega
  unfold stepO
  split
  · exact okS_ent hs _ (h4 _) (by omega)
  dsimp only
  split
  · exact okS_ent hs _ (h4 _) (by omega)
  unfold tookO
  split
  · exact okS_ent hs _ (h4 _) (by omega)
  split
  · exact okS_set hs _ (h4 _)
  split
  · exact okS_ent hs _ (h4 _) (by omega)
  split
  · exact okS_ent hs _ (h4 _) (by omega)
  split
  · exact hs
  dsimp only
  unfold doesS
  split
  · rename_i s' q
    exact exec_okS F hval hgot _ _ _ _ _ hs (okS_set hs _ (h4 _)) (decode_good _).toInsOk _ q
  · exact okS_ent hs _ (h4 _) (by omega)
  · exact okS_ent hs _ (h8 _) (by omega)
end
end Go.Proofs.Ytpfhplhamnohjaa
namespace Go.Proofs.Ytpfhplhamnohjaa
set_option maxHeartbeats 25600000
set_option maxRecDepth 100000
open Go.RowKit

set_option linter.unusedSimpArgs false
theorem wpQuiet_load_mid {P : Program} {ops : Array Oper} {C : World → Prop} {Q : Act → Prop} {o : Oper} {rest : List Oper} {a : Act} (hw : Region.wanted o (yielded ops a.tmps) = true) (ty : TypeId) (x : Operand) (ho : o.op = .load ty x)
    (b off : Nat) (hx : a.eval x = .pointer (some ⟨b, off, none⟩)) (cs : List Value) (d : TypeDesc) (hS : ∀ w, C w → w.rangeAt b off cs) (hu : P.underlying ty = some d) (hd : d.isRow = true) (hi : (P.info? ty).map (·.size) = some cs.length)
    (h : wpQuiet P ops C Q rest (a.put o.dst (.agg cs.toArray))) : wpQuiet P ops C Q (o :: rest) a := by
  refine BigFrame.wpQuiet_want hw (fun K hK => ⟨.agg cs.toArray, fun w hC => ?_, hK _ h⟩)
  unfold Oper.quietAt
  have e : (execOp a.eval o).run P w = .ok (.value (.agg cs.toArray)) w := by
    unfold execOp
    simp only [ho, hx, Instr.loadAt, Instr.sureAddr, Sem.run_bind, Sem.run_pure, Result.andThen_ok, run_loadVar_mid w b off ty cs d (hS w hC) hu hd hi]
  rw [e]
  exact ⟨rfl, rfl⟩
theorem eqIn_13 (d : Nat) (a0 a1 a2 a3 a4 a5 a6 a7 a8 a9 a10 a11 a12 : Int) (w : World) : (Op.equalIn (d + 2) 23 (.agg #[.int .u32 a0, .int .u32 a1, .int .u32 a2, .int .u32 a3, .int .u32 a4, .int .u32 a5, .int .u32 a6, .int .u32 a7, .int .u32 a8, .int .u32 a9, .int .u32 a10, .int .u32 a11, .int .u32 a12]) (.agg #[.int .u32 a0, .int .u32 a1, .int .u32 a2, .int .u32 a3, .int .u32 a4, .int .u32 a5, .int .u32 a6, .int .u32 a7, .int .u32 a8, .int .u32 a9, .int .u32 a10, .int .u32 a11, .int .u32 a12])).run Try.prog w = .ok true w := by
  rw [run_equalIn_array w (d + 1) _ _ Try.underlying23 rfl]
  rw [show Try.prog.cellsOf 22 = 1 by kernel_rfl]
  simp [Op.eqItems, List.range_succ, go_sem]
theorem eqIn_5 (d : Nat) (a0 a1 a2 a3 a4 : Int) (w : World) : (Op.equalIn (d + 2) 24 (.agg #[.int .u32 a0, .int .u32 a1, .int .u32 a2, .int .u32 a3, .int .u32 a4]) (.agg #[.int .u32 a0, .int .u32 a1, .int .u32 a2, .int .u32 a3, .int .u32 a4])).run Try.prog w = .ok true w := by
  rw [run_equalIn_array w (d + 1) _ _ Try.underlying24 rfl]
  rw [show Try.prog.cellsOf 22 = 1 by kernel_rfl]
  simp [Op.eqItems, List.range_succ, go_sem]
theorem eqIn_sta (d : Nat) (s : Sta) (w : World) : (Op.equalIn (d + 5) 26 (.agg (staCells s).toArray) (.agg (staCells s).toArray)).run Try.prog w = .ok true w := by
  rw [staCells_lit]
  have h13 := eqIn_13 (d + 2)
  have h5 := eqIn_5 (d + 2)
  simp [go_sem, h13, h5]
theorem eql_sta (s : Sta) (w : World) : (binOp .eql 26 (.agg (staCells s).toArray) (.agg (staCells s).toArray)).run Try.prog w = .ok (.bool true) w := by
  rw [run_eql_struct, eqIn_sta 9995]; rfl
theorem neq_sta (s : Sta) (w : World) : (binOp .neq 26 (.agg (staCells s).toArray) (.agg (staCells s).toArray)).run Try.prog w = .ok (.bool false) w := by
  rw [run_neq_struct, eqIn_sta 9995]; rfl
end Go.Proofs.Ytpfhplhamnohjaa
namespace Go.Proofs.Ytpfhplhamnohjaa
set_option maxHeartbeats 25600000
set_option maxRecDepth 100000
open Go.RowKit

set_option linter.unusedSimpArgs false
def madeS (s : Sta) : Sta := if isL s = true then s else newSta
theorem okS_new : OkS newSta := fun i _ => by unfold newSta; split <;> omega
theorem okS_made {s : Sta} (h : OkS s) : OkS (madeS s) := by unfold madeS; split; exact h; exact okS_new
theorem made_is (s : Sta) (hs : OkS s) (w : World) :
    Calls Try.prog 9 #[.agg (staCells s).toArray] w fun e w' => ∃ gc, e = .returned (.pointer (some ⟨gc, 0, none⟩)) ∧ Blok w' gc 85 (cpuCells (madeS s) false) ∧ Below w.heap.size w w' ∧ w.heap.size ≤ gc := by
  have hX : Blok (w.alloc (.cells (staCells s).toArray 26)) w.heap.size 26 (staCells s) := Blok.new w _ (staCells s)
  have hB : Below w.heap.size w (w.alloc (.cells (staCells s).toArray 26)) := (Below.refl _ _).alloc (Nat.le_refl _) _
  have NW := Lib.hid (fun w => New_is w)
  have IS := Lib.hid (fun w => is_is s (hs 28 (by omega)) (hs 29 (by omega)) w)
  have LY := Lib.hid (fun s0 g w h => Load_yes s s0 false g 85 (hs 29 (by omega)) w h)
  have LN := Lib.hid (fun s0 g w h => Load_no s s0 false g 85 (hs 29 (by omega)) w h)
  have nq := neq_sta s
  go_enter Try.func9, Try.ntmps9
  go_upto_region 1 with fail
  generalize w.alloc (.cells (staCells s).toArray 26) = w1 at hX hB ⊢
  cases hL : isL s
  · have HL := Lib.hid (show madeS s = newSta by unfold madeS; rw [hL]; rfl)
    rw [hL] at IS
    have LX := Lib.hid (fun w h => LN.out newSta w1.heap.size w h hL)
    clear LY LN hL
    go_upto_region 5 with (first | (go_at_call 24; (with_reducible refine (NW.out _).mono ?_); rintro e w2 ⟨rfl, hC, b2⟩; have hX2 := hX.below b2 hX.lt) | (go_at_call 18; (with_reducible refine (LX.out _ hC).mono ?_); rintro e w3 ⟨rfl, b3⟩) | (refine wpList_load_mid rfl 26 (.tmp 1) rfl w.heap.size 0 rfl (staCells s) _ hX2.range Try.underlying26 rfl (by rw [sta_size, staCells_len]) ?_))
    have hX3 := hX2.below b3 hX2.lt
    have hC3 := hC.below b3 hC.lt
    have B3 : Below w.heap.size w w3 := bthen (bthen hB b2) b3
    have gl := hB.size
    clear hX2 hX hB hC b2 b3
    generalize w1.heap.size = gc at hC3 gl ⊢
    have hS : ∀ w', (∃ m, w' = grow w3 m) → w'.rangeAt w.heap.size 0 (staCells s) := fun w' ⟨m, e⟩ => by rw [e]; exact (hX3.below (grow_below w3 m) hX3.lt).range
    have ST := Lib.hid (fun m => State_is newSta false gc 85 (grow w3 m) (hC3.below (grow_below w3 m) hC3.lt))
    refine wp_region_grow (by kernel_rfl) (by kernel_rfl) ?_
    repeat (first | ((refine wpQuiet_load_mid (by rfl) 26 (.tmp 1) rfl w.heap.size 0 rfl (staCells s) _ hS Try.underlying26 rfl (by rw [sta_size, staCells_len]) ?_); (try simp only [Act.put, List.setIfInBounds_toArray, List.set_cons_zero, List.set_cons_succ])) | go_big_quiet_step (first | (go_at_call 11; exact calls_grow (ST.out _)) | (go_at_call 26; exact calls_grow (IS.out _)) | (go_at_call 14; exact calls_grow_same (no_is _ _))))
    refine wpQuiet_nil ?_
    intro _ hw'
    obtain ⟨ew, hw''⟩ := hw'
    subst hw''
    go_wp2_with fail
    go_ret
    rw [HL.out]
    exact ⟨gc, rfl, hC3.below (grow_below w3 ew) hC3.lt, bthen B3 (grow_below w3 ew), gl⟩
  · have HL := Lib.hid (show madeS s = s by unfold madeS; rw [hL]; rfl)
    rw [hL] at IS
    have LX := Lib.hid (fun w h => LY.out newSta w1.heap.size w h hL)
    clear LY LN hL
    go_upto_region 5 with (first | (go_at_call 24; (with_reducible refine (NW.out _).mono ?_); rintro e w2 ⟨rfl, hC, b2⟩; have hX2 := hX.below b2 hX.lt) | (go_at_call 18; (with_reducible refine (LX.out _ hC).mono ?_); rintro e w3 ⟨rfl, hC3, g3⟩) | (refine wpList_load_mid rfl 26 (.tmp 1) rfl w.heap.size 0 rfl (staCells s) _ hX2.range Try.underlying26 rfl (by rw [sta_size, staCells_len]) ?_))
    have hX3 := hX2.grown g3 (fun e => by have := Option.some.inj e; have := hX.lt; omega)
    have B3 : Below w.heap.size w w3 := bgrow (bthen hB b2) g3 hB.size
    have gl := hB.size
    clear hX2 hX hB hC b2 g3
    generalize w1.heap.size = gc at hC3 gl ⊢
    have hS : ∀ w', (∃ m, w' = grow w3 m) → w'.rangeAt w.heap.size 0 (staCells s) := fun w' ⟨m, e⟩ => by rw [e]; exact (hX3.below (grow_below w3 m) hX3.lt).range
    have ST := Lib.hid (fun m => State_is s false gc 85 (grow w3 m) (hC3.below (grow_below w3 m) hC3.lt))
    refine wp_region_grow (by kernel_rfl) (by kernel_rfl) ?_
    repeat (first | ((refine wpQuiet_load_mid (by rfl) 26 (.tmp 1) rfl w.heap.size 0 rfl (staCells s) _ hS Try.underlying26 rfl (by rw [sta_size, staCells_len]) ?_); (try simp only [Act.put, List.setIfInBounds_toArray, List.set_cons_zero, List.set_cons_succ])) | go_big_quiet_step (first | (go_at_call 11; exact calls_grow (ST.out _)) | (go_at_call 26; exact calls_grow (IS.out _)) | (go_at_call 14; exact calls_grow_same (no_is _ _))))
    refine wpQuiet_nil ?_
    intro _ hw'
    obtain ⟨ew, hw''⟩ := hw'
    subst hw''
    go_wp2_with fail
    go_ret
    rw [HL.out]
    exact ⟨gc, rfl, hC3.below (grow_below w3 ew) hC3.lt, bthen B3 (grow_below w3 ew), gl⟩
end Go.Proofs.Ytpfhplhamnohjaa
namespace Go.Proofs.Ytpfhplhamnohjaa
open Go.RowKit

def liveW : List Int := [3818913797, 3796893701, 60821505, 3852410884, 4009754631, 0, 287454020]
def livePuts (k : Nat) : List (Int × Int) := (List.range k).map fun (i : Nat) => (4 * (i : Int), liveW.getD i 0)
def liveNext (x : LineM × Sta) : LineM × Sta := ((stepO lineF x.1 x.2 false).1, (stepO lineF x.1 x.2 false).2.1)
def liveSt : Nat → LineM × Sta
  | 0 => (⟨livePuts 7, [], [], 0, 200⟩, newSta)
  | k + 1 => liveNext (liveSt k)
theorem live_t0 : (stepO lineF (liveSt 0).1 (liveSt 0).2 false).2.2 = ⟨0, 0, 3818913797, 0, 0, 0, 0, false⟩ := by kernel_rfl
theorem live_t1 : (stepO lineF (liveSt 1).1 (liveSt 1).2 false).2.2 = ⟨0, 4, 3796893701, 0, 0, 0, 0, false⟩ := by kernel_rfl
theorem live_t2 : (stepO lineF (liveSt 2).1 (liveSt 2).2 false).2.2 = ⟨0, 8, 60821505, 0, 0, 0, 0, false⟩ := by kernel_rfl
theorem live_t3 : (stepO lineF (liveSt 3).1 (liveSt 3).2 false).2.2 = ⟨0, 12, 3852410884, 0, 0, 0, 0, false⟩ := by kernel_rfl
theorem live_t4 : (stepO lineF (liveSt 4).1 (liveSt 4).2 false).2.2 = ⟨2, 16, 4009754631, 0, 0, 0, 0, false⟩ := by kernel_rfl
theorem live_s : (liveSt 5).2 0 = 0 ∧ (liveSt 5).2 1 = 1 ∧ (liveSt 5).2 2 = 287454020 ∧ (liveSt 5).2 19 = 20 ∧ (liveSt 5).2 24 = 1610612883 ∧ (liveSt 5).2 28 = 8 := ⟨by kernel_rfl, by kernel_rfl, by kernel_rfl, by kernel_rfl, by kernel_rfl, by kernel_rfl⟩
theorem live_ret : (retV (liveSt 5).2 0).2 = 0 ∧ regV (retV (liveSt 5).2 0).1 15 = 20 := ⟨by kernel_rfl, by kernel_rfl⟩
theorem live_room (k : Nat) (h : k < 5) : 17 ≤ (liveSt k).1.room := by
  obtain rfl | rfl | rfl | rfl | rfl : k = 0 ∨ k = 1 ∨ k = 2 ∨ k = 3 ∨ k = 4 := by omega
  all_goals exact Nat.le_of_ble_eq_true (by kernel_rfl)
theorem live_ok : ∀ k, OkS (liveSt k).2
  | 0 => okS_new
  | k + 1 => step_okS lineF line_val (lineBus 0).got _ _ false (live_ok k)
theorem live_tk (k : Nat) (h : k < 4) : (stepO lineF (liveSt k).1 (liveSt k).2 false).2.2 = ⟨0, 4 * (k : Int), liveW.getD k 0, 0, 0, 0, 0, false⟩ := by
  obtain rfl | rfl | rfl | rfl : k = 0 ∨ k = 1 ∨ k = 2 ∨ k = 3 := by omega
  · exact live_t0
  · exact live_t1
  · exact live_t2
  · exact live_t3
theorem livePuts_next (k : Nat) : livePuts (k + 1) = livePuts k ++ [(4 * (k : Int), liveW.getD k 0)] := by
  unfold livePuts
  rw [List.range_succ, List.map_append]
  rfl
theorem livePuts_len (k : Nat) : (livePuts k).length = k := by simp [livePuts]
theorem liveW_u (k : Nat) : 0 ≤ liveW.getD k 0 ∧ liveW.getD k 0 < 4294967296 := by
  rcases Nat.lt_or_ge k 7 with h | h
  · obtain rfl | rfl | rfl | rfl | rfl | rfl | rfl : k = 0 ∨ k = 1 ∨ k = 2 ∨ k = 3 ∨ k = 4 ∨ k = 5 ∨ k = 6 := by omega
    all_goals simp [liveW]
  · rw [List.getD_eq_getElem?_getD, List.getElem?_eq_none (by simp [liveW]; omega)]
    simp
end Go.Proofs.Ytpfhplhamnohjaa
namespace Go.Proofs.Ytpfhplhamnohjaa
set_option maxHeartbeats 25600000
set_option maxRecDepth 100000
open Go.RowKit

set_option linter.unusedSimpArgs false
def liveC : List Value := liveW.map fun x => .int .u32 x
theorem liveC_at (k : Nat) (h : k < 7) : liveC[k]? = some (.int .u32 (liveW.getD k 0)) := by
  obtain rfl | rfl | rfl | rfl | rfl | rfl | rfl : k = 0 ∨ k = 1 ∨ k = 2 ∨ k = 3 ∨ k = 4 ∨ k = 5 ∨ k = 6 := by omega
  all_goals rfl
theorem live_line {w : World} {g : Nat} (h : Blok w g 48 [.slice none 0 0, .slice none 0 0, .slice none 0 0, .int .u32 0]) : IsLine g ⟨livePuts 0, [], [], 0, 200⟩ (fun j => j = g) w :=
  ⟨⟨by simp [livePuts], by simp, by simp, by simp, by simp [livePuts]⟩, .slice none 0 0, .slice none 0 0, .slice none 0 0, h, World.ownsRow_nil _ 0 _ _, World.ownsRow_nil _ 0 _ _, World.ownsRow_nil _ 0 _ _, fun j => by simp [Value.ownBlock], (fun q => by cases q), (fun q => by cases q), (fun q => by cases q), (fun j q => by cases q), (fun j q => by cases q)⟩
def tkO (t : Tk) : Obj := .cells (tkCells t).toArray 38
/-- at the head of a round of live's loops -/
structure LiveAt (w : World) (gc lb gl : Nat) (m : LineM) (s : Sta) (wr : World) : Prop where
  ex : ∃ O, IsLine gl m O wr ∧ ∀ j, O j → w.heap.size ≤ j ∧ j ≠ gc ∧ j ≠ lb
  cpu : Blok wr gc 85 (cpuCells s false)
  row : Blok wr lb 22 liveC
  bel : Below w.heap.size w wr
  far : w.heap.size ≤ gc ∧ w.heap.size ≤ lb ∧ w.heap.size ≤ gl ∧ gc ≠ lb ∧ gc ≠ gl ∧ lb ≠ gl
theorem LiveAt.below {w wr w' : World} {gc lb gl : Nat} {m : LineM} {s : Sta} (L : LiveAt w gc lb gl m s wr) (b : Below wr.heap.size wr w') : LiveAt w gc lb gl m s w' := by
  obtain ⟨O, hI, hO⟩ := L.ex
  exact ⟨⟨O, hI.keep (GrownS.ofBelow (S := fun _ => False) b) (fun _ _ q => q), hO⟩, L.cpu.below b L.cpu.lt, L.row.below b L.row.lt, bthen L.bel b, L.far⟩
theorem okS_ret {s : Sta} (h : OkS s) (x : Int) : OkS (retV s x).1 := by
  unfold retV
  split
  · exact okS_back h _
  · exact h
theorem live_is (w : World) : Calls Try.prog 10 #[] w fun e w' => e = .returned (.bool true) ∧ Below w.heap.size w w' := by
  have NW := Lib.hid (fun w => New_is w)
  go_enter Try.func10, Try.ntmps10
  go_upto_region 6 with (go_at_call 24; (with_reducible refine (NW.out _).mono ?_); rintro e w1 ⟨rfl, hC, b1⟩)
  have hC1 := hC
  have hL0 : LiveAt w w.heap.size w1.heap.size (w1.heap.size + 1) ⟨livePuts 0, [], [], 0, 200⟩ newSta ((w1.alloc (.cells liveC.toArray 22)).alloc (.cells #[.slice none 0 0, .slice none 0 0, .slice none 0 0, .int .u32 0] 48)) := by
    have l1 := hC.lt
    have z1 : (w1.alloc (.cells liveC.toArray 22)).heap.size = w1.heap.size + 1 := by simp
    have hl := Blok.new (w1.alloc (.cells liveC.toArray 22)) 48 [.slice none 0 0, .slice none 0 0, .slice none 0 0, .int .u32 0]
    rw [z1] at hl
    exact ⟨⟨fun j => j = w1.heap.size + 1, live_line hl, fun j e => by omega⟩, (hC.alloc _).alloc _, (Blok.new w1 22 liveC).alloc _, (b1.alloc b1.size _).alloc (by have := b1.size; simp; omega) _, by omega, by omega, by omega, by omega, by omega, by omega⟩
  have RM := Lib.hid live_room
  have TK := Lib.hid live_tk
  have OKK := Lib.hid live_ok
  change Code.wp _ _ _ _ ((w1.alloc (.cells liveC.toArray 22)).alloc (.cells #[.slice none 0 0, .slice none 0 0, .slice none 0 0, .int .u32 0] 48))
  generalize (w1.alloc (.cells liveC.toArray 22)).alloc (.cells #[.slice none 0 0, .slice none 0 0, .slice none 0 0, .int .u32 0] 48) = W0 at hL0 ⊢
  clear hC hC1 b1 NW
  generalize w1.heap.size + 1 = gl at hL0 ⊢
  generalize w1.heap.size = lb at hL0 ⊢
  go_wp2_with fail
  go_loopw [4] (fun v4 wr => ∃ k : Nat, k ≤ 7 ∧ v4 = .int .i64 k ∧ LiveAt w w.heap.size lb gl ⟨livePuts k, [], [], 0, 200⟩ newSta wr) (fun v4 _ => 7 - (intOf v4).toNat)
  case atStart => exact ⟨0, by omega, rfl, hL0⟩
  case round =>
    obtain ⟨k, hk, rfl, L⟩ := hrel
    clear hL0
    by_cases hlt : k < 7
    · obtain ⟨O, hI, hO⟩ := L.ex
      have lw := liveW_u k
      obtain ⟨vp1, vh1, va1, hb7, np1, row7, PUT⟩ := line_put hI (by dsimp only; rw [livePuts_len]; omega) (4 * (k : Int), liveW.getD k 0) ⟨by dsimp only; omega, lw⟩
      have PUT := Lib.hid PUT
      have ow : ∀ j, vp1.ownBlock = some j → O j := fun j q => by
        obtain ⟨x1, x2, x3, y1, _, _, _, c1, _⟩ := hI.ex
        have e1 : vp1 = x1 := Option.some.inj ((hb7.cell 0).symm.trans (y1.cell 0))
        exact (c1 _).2 (Or.inr (Or.inl (e1 ▸ q)))
      have nl : vp1.ownBlock ≠ some lb := fun e => (hO _ (ow _ e)).2.2 rfl
      have f0 : ∀ w', GrownS wr w' (fun j => vp1.ownBlock = some j) → w'.cell? ⟨gl, 0, none⟩ = some vp1 := fun w' q => (hb7.gs q np1).cell 0
      have fl : ∀ w', GrownS wr w' (fun j => vp1.ownBlock = some j) → w'.cell? ⟨lb, k, none⟩ = some (.int .u32 (liveW.getD k 0)) := fun w' q => ((L.row.gs q nl).cell k).trans (liveC_at k hlt)
      have hS0 : GrownS wr wr.drew (fun j => vp1.ownBlock = some j) := GrownS.drew _ _
      have LL := Lib.hid L
      have HI := Lib.hid hI
      have HO := Lib.hid hO
      clear L hI hO
      obtain ⟨x, hx⟩ : ∃ x, liveW.getD k 0 = x := ⟨_, rfl⟩
      have HX := Lib.hid hx
      rw [hx] at lw fl PUT
      clear hx
      have h4 : IntKind.i64.wrap (4 * (k : Int)) = 4 * k := by rw [IntKind.wrap_i64]; omega
      have h5 : IntKind.u32.wrap (4 * (k : Int)) = 4 * k := by show (4 * (k : Int)) % 4294967296 = 4 * k; omega
      go_upto_region 9 with fail
      (refine hwalk_start (S := (fun w' => GrownS wr w' (fun j => vp1.ownBlock = some j))) 15 (by kernel_rfl) (by kernel_rfl) (by kernel_rfl) (by kernel_rfl) (by kernel_rfl) ?_; simp only [List.size_toArray, List.length_cons, List.length_nil, Nat.reduceAdd, Nat.reduceSub, Array.replicate_succ, Array.replicate_zero, List.push_toArray, List.nil_append, List.cons_append])
      (iterate 13 (refine hwalk_next (d := some _) (v := ?_) rfl rfl (by kernel_rfl) (by kernel_rfl) (by kernel_rfl) (fun _ _ _ h => h) (Or.inl ⟨by rfl, ?_⟩) (by with_reducible assumption) ?_; rotate_left 1; (· ((intro w hSw); (try dsimp only at hSw); first | (go_simp; done) | (go_simp; with_reducible rfl))); (try simp only [Act.put, List.setIfInBounds_toArray, List.set_cons_zero, List.set_cons_succ, Nat.reduceAdd, Nat.reduceSub])))
      have b8 : Below wr.heap.size wr ((wr.alloc (.cells (putC (4 * (k : Int), x)).toArray 69)).drew) := bdrew ((Below.refl _ _).alloc (Nat.le_refl _) _)
      have hq : Blok ((wr.alloc (.cells (putC (4 * (k : Int), x)).toArray 69)).drew) wr.heap.size 69 (putC (4 * (k : Int), x)) := (Blok.new wr _ (putC _)).drewN 1
      have hS1 : GrownS wr ((wr.alloc (.cells (putC (4 * (k : Int), x)).toArray 69)).drew) (fun j => vp1.ownBlock = some j) := GrownS.ofBelow b8
      refine hwalk_one (i := 13) rfl (by kernel_rfl) (by kernel_rfl) rfl (fun K hK => ?_)
      go_simp
      refine hK _ _ hS1 ?_
      clear hK K
      (try simp only [Act.put, List.setIfInBounds_toArray, List.set_cons_zero, List.set_cons_succ])
      change HWalk _ _ _ _ _ _ _ _ _ ((wr.alloc (.cells (putC (4 * (k : Int), x)).toArray 69)).drew)
      generalize (wr.alloc (.cells (putC (4 * (k : Int), x)).toArray 69)).drew = W8 at hq hS1 b8 ⊢
      refine hwalk_one (i := 14) rfl (by kernel_rfl) (by kernel_rfl) rfl (fun K hK => ?_)
      refine wp_append_el putC_len (by omega) put_info rfl putC_one 27 Try.underlying27 (.tmp 27) (.tmp 36) rfl vp1 (livePuts k) rfl (row7.same (fun j q => b8.block j (row7.lt j q))) (4 * (k : Int), x) wr.heap.size 69 rfl hq (by rw [livePuts_len]; unfold maxLen; omega) (by rw [livePuts_len]; omega) ?_
      rw [livePuts_len] at PUT ⊢
      intro g2 cap2 w9 row9 gr9 hat9
      refine hK _ _ (hS1.trans (gsOwn gr9)) ?_
      clear hK K
      have hb9 := (hb7.below b8 hb7.lt).grown gr9 (fun e => np1 e.symm)
      have t9 : w9.cell? ⟨gl, 0, none⟩ = some vp1 := hb9.cell 0
      have f9 := hb9.frozen 0
      refine hwalk_done (by kernel_rfl) ?_
      simp only [Act.put, List.setIfInBounds_toArray, List.set_cons_zero, List.set_cons_succ, List.drop_succ_cons, List.drop_zero]
      obtain ⟨O2, hI9, G9, k9, e9⟩ := PUT.out _ w9 _ g2 cap2 b8 row9 gr9 hat9 rfl
      clear f0 fl hS0 hS1
      go_wp2_with fail
      clear t9 f9 hb9 row9 hq row7 hb7
      have L2 : LiveAt w w.heap.size lb gl ⟨livePuts (k + 1), [], [], 0, 200⟩ newSta (w9.setCell ⟨gl, 0, none⟩ (.slice (some ⟨g2, 0, none⟩) (k + 1) cap2)) := by
        rw [livePuts_next, HX.out]
        have nO : ∀ j, j = w.heap.size ∨ j = lb → ¬ O j := fun j q o => q.elim (fun e => (HO.out j o).2.1 e) (fun e => (HO.out j o).2.2 e)
        have bw := LL.out.bel.size
        exact ⟨⟨O2, hI9, fun j q => (k9 j q).elim (fun o => HO.out j o) (fun l => by have := b8.size; have := LL.out.cpu.lt; have := LL.out.row.lt; exact ⟨by omega, by omega, by omega⟩)⟩, LL.out.cpu.gs G9 (nO _ (Or.inl rfl)), LL.out.row.gs G9 (nO _ (Or.inr rfl)),
          LL.out.bel.trans (G9.bel bw (fun j o => (HO.out j o).1)), LL.out.far⟩
      go_roundw
      case rel => exact ⟨k + 1, by omega, by go_num, L2⟩
      case measure => simp [intOf]; omega
    · have hke : k = 7 := by omega
      subst hke
      clear hk hlt
      have L0 : LiveAt w w.heap.size lb gl (liveSt 0).1 (liveSt 0).2 wr := L
      clear L
      go_wp2_with fail
      go_loopw [5] (fun v5 wq => ∃ k : Nat, k ≤ 4 ∧ v5 = .int .i64 k ∧ LiveAt w w.heap.size lb gl (liveSt k).1 (liveSt k).2 wq) (fun v5 _ => 4 - (intOf v5).toNat)
      case atStart => exact ⟨0, by omega, rfl, L0⟩
      case round =>
        clear L0
        obtain ⟨k, hk, rfl, L⟩ := hrel
        by_cases hlt : k < 4
        · obtain ⟨O, hI, hO⟩ := L.ex
          have far := L.far
          have ST := lineStep gl (liveSt k).1 O (liveSt k).2 false w.heap.size 85 (OKK.out k) wr L.cpu hI (fun q => (hO _ q).2.1 rfl) (RM.out k (by omega))
          have T1 := TK.out k hlt
          have N1 := Lib.hid (show (stepO lineF (liveSt k).1 (liveSt k).2 false).1 = (liveSt (k + 1)).1 ∧ (stepO lineF (liveSt k).1 (liveSt k).2 false).2.1 = (liveSt (k + 1)).2 from ⟨rfl, rfl⟩)
          have LX := liveC_at k (by omega)
          generalize stepO lineF (liveSt k).1 (liveSt k).2 false = r at ST T1 N1
          obtain ⟨m1, s1, t1⟩ := r
          dsimp only at T1
          subst T1
          generalize liveW.getD k 0 = x at ST LX
          have ST2 : Calls Try.prog 13 #[.pointer (some ⟨w.heap.size, 0, none⟩), .iface 33 (.pointer (some ⟨gl, 0, none⟩))] wr (fun e w' => e = .returned (.tuple #[.agg #[.int .i64 0, .int .u32 (4 * (k : Int)), .int .u32 x, .int .u32 0, .int .i64 0, .int .i64 0, .int .i64 0, .bool false], .int .i64 0]) ∧ Blok w' w.heap.size 85 (cpuCells s1 false) ∧ ∃ O' : Nat → Prop, IsLine gl m1 O' w' ∧ GrownS wr w' (fun j => j = w.heap.size ∨ O j) ∧ ∀ j, O' j → O j ∨ wr.heap.size ≤ j) := ST
          have SQ := Lib.hid ST2
          have LL := Lib.hid L
          have HO := Lib.hid hO
          clear ST ST2 L hO hI
          have h4 : IntKind.i64.wrap (4 * (k : Int)) = 4 * k := by rw [IntKind.wrap_i64]; omega
          have h5 : IntKind.u32.wrap (4 * (k : Int)) = 4 * k := by show (4 * (k : Int)) % 4294967296 = 4 * k; omega
          go_upto_region 14 with (go_at_call 13; (with_reducible refine (SQ.out).mono ?_); rintro e w3 ⟨rfl, hc3, O3, hI3, g3, k3⟩)
          change Code.wp _ _ _ _ (w3.alloc (tkO ⟨0, 4 * (k : Int), x, 0, 0, 0, 0, false⟩))
          have hT : Blok (w3.alloc (tkO ⟨0, 4 * (k : Int), x, 0, 0, 0, 0, false⟩)) w3.heap.size 38 (tkCells ⟨0, 4 * (k : Int), x, 0, 0, 0, 0, false⟩) := Blok.new w3 _ (tkCells ⟨0, 4 * (k : Int), x, 0, 0, 0, 0, false⟩)
          have b4 : Below w3.heap.size w3 (w3.alloc (tkO ⟨0, 4 * (k : Int), x, 0, 0, 0, 0, false⟩)) := (Below.refl _ _).alloc (Nat.le_refl _) _
          have nr : ¬ (lb = w.heap.size ∨ O lb) := fun q => q.elim (fun e => far.2.2.2.1 e.symm) (fun o => (HO.out _ o).2.2 rfl)
          have row4 := (LL.out.row.gs g3 nr).below b4 (LL.out.row.gs g3 nr).lt
          have L4 : LiveAt w w.heap.size lb gl (liveSt (k + 1)).1 (liveSt (k + 1)).2 (w3.alloc (tkO ⟨0, 4 * (k : Int), x, 0, 0, 0, 0, false⟩)) := by
            have bw := LL.out.bel.size
            rw [← N1.out.1, ← N1.out.2]
            exact ⟨⟨O3, hI3.keep (GrownS.ofBelow (S := fun _ => False) b4) (fun _ _ q => q), fun j q => (k3 j q).elim (fun o => HO.out j o) (fun l => by have := LL.out.cpu.lt; have := LL.out.row.lt; exact ⟨by omega, by omega, by omega⟩)⟩, hc3.below b4 hc3.lt, row4,
              (LL.out.bel.trans (g3.bel bw (fun j o => o.elim (fun e => by omega) (fun o => (HO.out j o).1)))).trans (b4.mono (Nat.le_trans bw g3.size)), LL.out.far⟩
          clear SQ LL HO N1 hc3 hI3 g3 k3 b4 nr
          generalize w3.alloc (tkO ⟨0, 4 * (k : Int), x, 0, 0, 0, 0, false⟩) = V at hT row4 L4 ⊢
          generalize w3.heap.size = tb at hT ⊢
          have LL := Lib.hid L4
          clear L4
          have hq : ∀ m, Blok (grow V m) _ _ _ := fun m => hT.below (grow_below V m) hT.lt
          have q0 : ∀ m, (grow V m).cell? ⟨tb, 0, none⟩ = some (.int .i64 0) := fun m => (hq m).cell 0
          have q1 : ∀ m, (grow V m).cell? ⟨tb, 1, none⟩ = some (.int .u32 (4 * (k : Int))) := fun m => (hq m).cell 1
          have q2 : ∀ m, (grow V m).cell? ⟨tb, 2, none⟩ = some (.int .u32 x) := fun m => (hq m).cell 2
          have q3 : ∀ m, (grow V m).cell? ⟨tb, 3, none⟩ = some (.int .u32 0) := fun m => (hq m).cell 3
          have q4 : ∀ m, (grow V m).cell? ⟨tb, 4, none⟩ = some (.int .i64 0) := fun m => (hq m).cell 4
          have q5 : ∀ m, (grow V m).cell? ⟨tb, 5, none⟩ = some (.int .i64 0) := fun m => (hq m).cell 5
          have q6 : ∀ m, (grow V m).cell? ⟨tb, 6, none⟩ = some (.int .i64 0) := fun m => (hq m).cell 6
          have q7 : ∀ m, (grow V m).cell? ⟨tb, 7, none⟩ = some (.bool false) := fun m => (hq m).cell 7
          have ql : ∀ m, (grow V m).cell? ⟨lb, k, none⟩ = some (.int .u32 x) := fun m => ((row4.below (grow_below V m) row4.lt).cell k).trans LX
          (refine wp_region_grow (by kernel_rfl) (by kernel_rfl) ?_; (repeat (go_big_quiet_step ((go_at_call 14; exact calls_grow_same (no_is _ _))))); refine wpQuiet_nil ?_; intro _ hw'; obtain ⟨ew, hw''⟩ := hw'; subst hw'')
          go_wp2_with fail
          go_roundw
          case rel =>
            (repeat apply Exists.intro)
            refine ⟨?_, rfl⟩
            exact ⟨k + 1, by omega, by go_num, LL.out.below (grow_below V ew)⟩
          case measure => simp [intOf]; omega
        · have hke : k = 4 := by omega
          subst hke
          obtain ⟨O, hI, hO⟩ := L.ex
          have far := L.far
          have ST := lineStep gl (liveSt 4).1 O (liveSt 4).2 false w.heap.size 85 (OKK.out 4) wr L.cpu hI (fun q => (hO _ q).2.1 rfl) (RM.out 4 (by omega))
          have T1 := live_t4
          have ok5 := OKK.out 5
          obtain ⟨z0, z1, z2, z19, z24, z28⟩ := live_s
          obtain ⟨y0, y1⟩ := live_ret
          have N1 : (stepO lineF (liveSt 4).1 (liveSt 4).2 false).2.1 = (liveSt 5).2 := rfl
          generalize (liveSt 5).2 = s5 at N1 ok5 z0 z1 z2 z19 z24 z28 y0 y1
          generalize stepO lineF (liveSt 4).1 (liveSt 4).2 false = r at ST T1 N1
          obtain ⟨m1, s1, t1⟩ := r
          dsimp only at T1 N1
          subst T1 N1
          have ST2 : Calls Try.prog 13 #[.pointer (some ⟨w.heap.size, 0, none⟩), .iface 33 (.pointer (some ⟨gl, 0, none⟩))] wr (fun e w' => e = .returned (.tuple #[.agg #[.int .i64 2, .int .u32 16, .int .u32 4009754631, .int .u32 0, .int .i64 0, .int .i64 0, .int .i64 0, .bool false], .int .i64 0]) ∧ Blok w' w.heap.size 85 (cpuCells s1 false) ∧ ∃ O' : Nat → Prop, IsLine gl m1 O' w' ∧ GrownS wr w' (fun j => j = w.heap.size ∨ O j) ∧ ∀ j, O' j → O j ∨ wr.heap.size ≤ j) := ST
          have SQ := Lib.hid ST2
          have LL := Lib.hid L
          have HO := Lib.hid hO
          clear ST ST2 L hO hI hk hlt
          go_upto_region 17 with (go_at_call 13; (with_reducible refine (SQ.out).mono ?_); rintro e w3 ⟨rfl, hc3, O3, hI3, g3, k3⟩)
          change Code.wp _ _ _ _ (w3.alloc (tkO ⟨2, 16, 4009754631, 0, 0, 0, 0, false⟩))
          have hT : Blok (w3.alloc (tkO ⟨2, 16, 4009754631, 0, 0, 0, 0, false⟩)) w3.heap.size 38 (tkCells ⟨2, 16, 4009754631, 0, 0, 0, 0, false⟩) := Blok.new w3 _ (tkCells ⟨2, 16, 4009754631, 0, 0, 0, 0, false⟩)
          have hc4 := hc3.alloc (tkO ⟨2, 16, 4009754631, 0, 0, 0, 0, false⟩)
          have B4 : Below w.heap.size w (w3.alloc (tkO ⟨2, 16, 4009754631, 0, 0, 0, 0, false⟩)) := by
            have bw := LL.out.bel.size
            exact (LL.out.bel.trans (g3.bel bw (fun j o => o.elim (fun e => by omega) (fun o => (HO.out j o).1)))).alloc (Nat.le_trans bw g3.size) _
          clear SQ LL HO hc3 hI3 g3 k3
          generalize w3.alloc (tkO ⟨2, 16, 4009754631, 0, 0, 0, 0, false⟩) = V at hT hc4 B4 ⊢
          generalize w3.heap.size = tb at hT ⊢
          have SS := Lib.hid (State_is s1 false w.heap.size 85 V hc4)
          go_upto_region 18 with (first | (refine wpList_store_sta rfl (.tmp 10) (.tmp 74) rfl V1.heap.size s1 zSta rfl rfl hs1 ?_; intro V2 B2 g2) | (go_at_call 11; (with_reducible refine (SS.out).mono ?_); rintro e V1 ⟨rfl, b1⟩; have hs1 := Blok.new V1 26 (staCells zSta)))
          have B5 : Below V.heap.size V V2 := bgrow ((b1.alloc b1.size (.cells #[.int .u32 0, .int .u32 0, .int .u32 0, .int .u32 0, .int .u32 0, .int .u32 0, .int .u32 0, .int .u32 0, .int .u32 0, .int .u32 0, .int .u32 0, .int .u32 0, .int .u32 0, .int .u32 0, .int .u32 0, .int .u32 0, .int .u32 0, .int .u32 0, .int .u32 0, .int .u32 0, .int .u32 0, .int .u32 0, .int .u32 0, .int .u32 0, .int .u32 0, .int .u32 0, .int .u32 0, .int .u32 0, .int .u32 0, .int .u32 0] 26))) g2 b1.size
          have hT5 := hT.below B5 hT.lt
          have hc5 := hc4.below B5 hc4.lt
          have B6 := bthen B4 B5
          clear hT hc4 B4 B5 b1 g2 hs1 SS
          generalize V1.heap.size = sb at B2 ⊢
          have e0 : V2.cell? ⟨sb, 0, none⟩ = some (.int .u32 0) := (sta_cell B2 0 (by omega)).trans (by rw [z0])
          have e1 : V2.cell? ⟨sb, 1, none⟩ = some (.int .u32 1) := (sta_cell B2 1 (by omega)).trans (by rw [z1])
          have e2 : V2.cell? ⟨sb, 2, none⟩ = some (.int .u32 287454020) := (sta_cell B2 2 (by omega)).trans (by rw [z2])
          have e19 : V2.cell? ⟨sb, 19, none⟩ = some (.int .u32 20) := (sta_cell B2 19 (by omega)).trans (by rw [z19])
          have e24 : V2.cell? ⟨sb, 24, none⟩ = some (.int .u32 1610612883) := (sta_cell B2 24 (by omega)).trans (by rw [z24])
          have e28 : V2.cell? ⟨sb, 28, none⟩ = some (.int .u32 8) := (sta_cell B2 28 (by omega)).trans (by rw [z28])
          have q0 : V2.cell? ⟨tb, 0, none⟩ = some (.int .i64 2) := hT5.cell 0
          have q1 : V2.cell? ⟨tb, 1, none⟩ = some (.int .u32 16) := hT5.cell 1
          have q2 : V2.cell? ⟨tb, 2, none⟩ = some (.int .u32 4009754631) := hT5.cell 2
          have q3 : V2.cell? ⟨tb, 3, none⟩ = some (.int .u32 0) := hT5.cell 3
          have q4 : V2.cell? ⟨tb, 4, none⟩ = some (.int .i64 0) := hT5.cell 4
          have q5 : V2.cell? ⟨tb, 5, none⟩ = some (.int .i64 0) := hT5.cell 5
          have q6 : V2.cell? ⟨tb, 6, none⟩ = some (.int .i64 0) := hT5.cell 6
          have q7 : V2.cell? ⟨tb, 7, none⟩ = some (.bool false) := hT5.cell 7
          have RT := Lib.hid (fun W h => Return_is s1 false w.heap.size 85 0 ok5 W h)
          have RG := Lib.hid (fun W h => Reg_is (retV s1 0).1 false w.heap.size 85 15 (okS_ret ok5 0) W h)
          rw [y0] at RT
          rw [y1] at RG
          go_wp2_with (first | (go_at_call 14; (with_reducible refine (no_is _ _).mono ?_); rintro e V3 ⟨rfl, rfl⟩) | (go_at_call 15; (with_reducible refine (RT.out _ hc5).mono ?_); rintro e V4 ⟨rfl, hc6, g6⟩) | (go_at_call 27; (with_reducible refine (RG.out _ hc6).mono ?_); rintro e V5 ⟨rfl, k5, rfl⟩))
          go_ret
          exact ⟨rfl, bdrewN (bgrow B6 g6 (Nat.le_refl _)) _⟩
end Go.Proofs.Ytpfhplhamnohjaa
