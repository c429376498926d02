/- Layer 20: data. -/
import Derived.Test.YtpfhplhamnohjaaG10
import Derived.Test.YtpfhplhamnohjaaG05
namespace Go.Proofs.Ytpfhplhamnohjaa
set_option maxHeartbeats 25600000
set_option maxRecDepth 100000
open Go.RowKit

def dataW (o : Sta) (at_ : Int) (i : Ins) : Int := doW i.op (getI o at_ i.rn) (operI o at_ i).1 (flagsI (o 29))
def dataF (o : Sta) (at_ : Int) (i : Ins) : Flg := doF i.op (getI o at_ i.rn) (operI o at_ i).1 (operI o at_ i).2 (flagsI (o 29))
theorem dataW_u (o : Sta) (at_ : Int) (i : Ins) (ho : OkS o) (hi : InsOk i) : 0 ≤ dataW o at_ i ∧ dataW o at_ i < 4294967296 := doW_u _ _ _ _ (operI_u o at_ i ho hi)
/-- data: the state that it leaves; none: it is undefined -/
def dataS (o s : Sta) (at_ : Int) (i : Ins) : Option Sta :=
  if doB i.op && (i.s && decide (i.rd = 15)) then (if backB s then some (backT s (dataW o at_ i)) else none)
  else some (if i.s then markS (if doB i.op then putS s i.rd (dataW o at_ i) else s) (dataF o at_ i) else (if doB i.op then putS s i.rd (dataW o at_ i) else s))
theorem workCells_len (o s : Sta) (b : Value) (at_ : Int) (i : Ins) (wt : Bool) : (workCells o s b at_ i wt).length = 83 := rfl
theorem work_range {w : World} {g : Nat} {t : TypeId} {o s : Sta} {b : Value} {at_ : Int} {i : Ins} {wt : Bool} (h : Blok w g t (workCells o s b at_ i wt)) : w.rangeAt g 30 (staCells s) := fun j v hv => by
  have hj : j < 30 := by
    rcases Nat.lt_or_ge j 30 with k | k
    · exact k
    · rw [List.getElem?_eq_none (by rw [staCells_len]; exact k)] at hv; cases hv
  rw [work_new h j hj]
  rw [staCells_get _ _ hj] at hv
  exact hv
theorem work_store {w : World} {g : Nat} {t : TypeId} {o s s' : Sta} {b : Value} {at_ : Int} {i : Ins} {wt : Bool} (h : Blok w g t ((workCells o s b at_ i wt).take 30 ++ (staCells s').toArray.toList ++ (workCells o s b at_ i wt).drop (30 + (staCells s').toArray.size))) : Blok w g t (workCells o s' b at_ i wt) := h
def Done (W : World) (g : Nat) (t : TypeId) (o s : Sta) (b : Value) (at_ : Int) (i : Ins) (wt : Bool) (r : Option Sta) (e : Ending) (w' : World) : Prop :=
  match r with
  | some s' => e = .returned (.tuple #[]) ∧ Blok w' g t (workCells o s' b at_ i wt) ∧ W.grownBy w' (some g)
  | none => e = .panicked undefP ∧ Blok w' g t (workCells o s b at_ i wt) ∧ W.grownBy w' (some g)
theorem data_done (o s : Sta) (b : Value) (at_ : Int) (i : Ins) (wt : Bool) (g : Nat) (t : TypeId) (ho : OkS o) (hs : OkS s) (hi : InsOk i) (hop : 1 ≤ i.op ∧ i.op ≤ 16) (W : World) (h : Blok W g t (workCells o s b at_ i wt)) :
    Calls Try.prog 47 #[.pointer (some ⟨g, 0, none⟩)] W (Done W g t o s b at_ i wt (dataS o s at_ i)) := by
  have hlt := h.lt
  have OP := Lib.hid (operand_is o s b at_ i wt g t ho hi W h)
  have HB := Lib.hid (fun w' (k : Below W.heap.size W w') => h.below k hlt)
  have G := Lib.hid (fun w' k => get_is' o s b at_ i wt g t i.rn ho hi.rn w' (HB.out w' k))
  have FL := Lib.hid (fun w' k => flags_is o s b at_ i wt g t ho w' (HB.out w' k))
  have DO := Lib.hid (fun w' => do_is i.op (getI o at_ i.rn) (operI o at_ i).1 (operI o at_ i).2 (flagsI (o 29)) hop (getI_u o at_ _ ho hi.rn.1) (operI_u o at_ i ho hi) w')
  have hu := dataW_u o at_ i ho hi
  change Hid (∀ w', Calls _ _ _ _ fun e w'' => e = .returned (.tuple #[.int .u32 (dataW o at_ i), .bool (doB i.op), .agg (flgCells (dataF o at_ i)).toArray]) ∧ _) at DO
  obtain ⟨r, hr⟩ : ∃ r, r = dataS o s at_ i := ⟨_, rfl⟩
  rw [← hr]
  unfold dataS at hr
  generalize dataW o at_ i = v at DO hr hu
  generalize dataF o at_ i = F at DO hr
  generalize operI o at_ i = oc at OP DO
  generalize getI o at_ i.rn = x at G DO
  obtain ⟨ow, oc⟩ := oc
  dsimp only at OP DO
  simp only [flgCells_lit] at FL DO
  have HR := Lib.hid hr
  clear hr
  have c63 : ∀ w', Below W.heap.size W w' → w'.cell? ⟨g, 63, none⟩ = some (.int .i64 i.op) := fun w' k => (HB.out w' k).cell 63
  have c67 : ∀ w', Below W.heap.size W w' → w'.cell? ⟨g, 67, none⟩ = some (.int .i64 i.rn) := fun w' k => (HB.out w' k).cell 67
  go_enter Try.func47, Try.ntmps47
  go_upto_region 1 with (go_at_call 62; (with_reducible refine (OP.out).mono ?_); rintro e w1 ⟨rfl, b1⟩)
  have hw1 := b1.size
  go_cut [4, 5, 6] (fun s4 s5 s6 wx => ∃ y : Nat, s4 = .int .u32 v ∧ s5 = .bool (doB i.op) ∧ s6 = .pointer (some ⟨y, 0, none⟩) ∧ Blok wx y 66 (flgCells F) ∧ W.heap.size ≤ y ∧ Below W.heap.size W wx)
  case first =>
    go_region_held3 (fun w' => Below W.heap.size W w')
      ((repeat' (first | with_reducible assumption | with_reducible exact Below.refl _ _ | with_reducible refine bdrewN ?_ _ | with_reducible refine bdrew ?_ | with_reducible refine Below.setCell ?_ ?_ _ | with_reducible refine Below.alloc ?_ ?_ _)) <;> (first | exact Nat.le_refl _ | assumption | exact Below.size (by assumption) | (simp; done) | (simp; omega)))
      (first | (go_at_call 63; (with_reducible refine (DO.out _).mono ?_); rintro e w4 ⟨rfl, b4⟩; have d4 : Below W.heap.size W w4 := bnext (by first | assumption | (refine Below.alloc ?_ ?_ _ <;> first | assumption | exact d3.size)) b4 (Nat.le_refl _); (try (have n4 : Blok w4 w1.heap.size 66 [.bool false, .bool false, .bool false, .bool false] := n3.below b4 n3.lt)); (try (have n4 : Blok w4 w3.heap.size 66 [.bool false, .bool false, .bool false, .bool false] := (b4.block w3.heap.size (by simp)).trans (heap_alloc_new w3 _))); (try (have q0 : w4.cell? ⟨_, 0, none⟩ = some (.bool false) := n4.cell 0)); (try (have r0 : w4.frozen? ⟨_, 0, none⟩ = false := n4.frozen 0)); (try (have q1 : w4.cell? ⟨_, 1, none⟩ = some (.bool false) := n4.cell 1)); (try (have r1 : w4.frozen? ⟨_, 1, none⟩ = false := n4.frozen 1)); (try (have q2 : w4.cell? ⟨_, 2, none⟩ = some (.bool false) := n4.cell 2)); (try (have r2 : w4.frozen? ⟨_, 2, none⟩ = false := n4.frozen 2)); (try (have q3 : w4.cell? ⟨_, 3, none⟩ = some (.bool false) := n4.cell 3)); (try (have r3 : w4.frozen? ⟨_, 3, none⟩ = false := n4.frozen 3))) | (go_at_call 65; (with_reducible refine (FL.out _ ?_).mono ?_); (first | assumption | (with_reducible assumption)); rintro e w3 ⟨rfl, b3⟩; have d3 : Below W.heap.size W w3 := bnext (by assumption) b3 (Nat.le_refl _); (try (have n3 : Blok w3 w1.heap.size 66 [.bool false, .bool false, .bool false, .bool false] := (b3.block w1.heap.size (by simp)).trans (heap_alloc_new w1 _)))) | (go_at_call 64; (with_reducible refine (G.out _ ?_).mono ?_); (first | assumption | (with_reducible assumption)); rintro e w2 ⟨rfl, k2, rfl⟩))
    all_goals rename_i hH
    all_goals
      go_wp2_with fail
      go_meet
      refine ⟨_, rfl, rfl, rfl, ?_, ?_, hH⟩
      · first | exact (((n4.set_ 0 _).set_ 1 _).set_ 2 _).set_ 3 _ | exact Blok.new w4 _ (flgCells F)
      · first | exact hw1 | exact d3.size | exact d4.size
  case rest =>
    obtain ⟨y, rfl, rfl, rfl, hY, hy, hb⟩ := hcut
    have hW := HB.out wc hb
    have hyl := hY.lt
    have hgl := hW.lt
    have hgy : g ≠ y := by omega
    clear OP HB G FL DO c63 c67 b1 hw1
    have c64 : wc.cell? ⟨g, 64, none⟩ = some (.bool i.s) := hW.cell 64
    have c66 : wc.cell? ⟨g, 66, none⟩ = some (.int .i64 i.rd) := hW.cell 66
    generalize doB i.op = d at HR ⊢
    have hR := HR.out
    clear HR
    have MK := Lib.hid (fun s' w' (k : Blok w' g t (workCells o s' b at_ i wt)) => mark_is o s' b at_ i wt g t F w' k)
    have PT := Lib.hid (put_is o s b at_ i wt g t i.rd v hs hi.rd wc hW)
    by_cases hA : d = true ∧ i.s = true ∧ i.rd = 15
    · obtain ⟨rfl, zs, zr⟩ := hA
      rw [zs, zr] at hR
      have BK := Lib.hid (back_is s v hs wc)
      have HV := Lib.hid (show backR s v = if backB s then backT s v else s from rfl)
      have hR2 : r = if backB s = true then some (backT s v) else none := by simpa using hR
      clear hR PT MK
      have hL := work_range hW
      rw [zs] at c64
      rw [zr] at c66
      generalize backR s v = X at BK HV
      generalize backB s = ok at BK HV hR2
      have HR2 := Lib.hid hR2
      clear hR2 zs zr hs
      cases ok
      · go_wp2_with (first | (refine wpList_load_mid rfl 26 (.tmp 54) rfl g 30 rfl (staCells s) _ hL Try.underlying26 rfl (by rw [sta_size, staCells_len]) ?_) | (go_at_call 30; (with_reducible refine (BK.out).mono ?_); rintro e w5 ⟨rfl, b5⟩) | (refine wpList_store_sta rfl (.tmp 7) (.tmp 58) rfl w5.heap.size X zSta rfl rfl (Blok.new w5 _ (staCells zSta)) ?_; intro w6 B6 g6))
        have hW6 : Blok w6 g t (workCells o s b at_ i wt) := ((hW.below b5 hgl).alloc _).grown g6 (by have := b5.size; simp; omega)
        have hB6 : Below W.heap.size W w6 := bgrow ((bthen hb b5).alloc (bthen hb b5).size _) g6 (bthen hb b5).size
        refine ⟨rfl, ?_⟩
        rw [show r = none by rw [HR2.out]; rfl]
        exact ⟨rfl, hW6, grown_of hB6 _⟩
      · go_upto_region 6 with (first | (refine wpList_load_mid rfl 26 (.tmp 54) rfl g 30 rfl (staCells s) _ hL Try.underlying26 rfl (by rw [sta_size, staCells_len]) ?_) | (go_at_call 30; (with_reducible refine (BK.out).mono ?_); rintro e w5 ⟨rfl, b5⟩) | (refine wpList_store_sta rfl (.tmp 7) (.tmp 58) rfl w5.heap.size X zSta rfl rfl (Blok.new w5 _ (staCells zSta)) ?_; intro w6 B6 g6))
        have hW5 : Blok w6 g t (workCells o s b at_ i wt) := ((hW.below b5 hgl).alloc _).grown g6 (by have := b5.size; simp; omega)
        have hX := cpu_range' B6
        have hB6 : Below W.heap.size W w6 := bgrow ((bthen hb b5).alloc (bthen hb b5).size _) g6 (bthen hb b5).size
        go_wp2_with (first | (refine wpList_load_sta rfl (.tmp 7) rfl w5.heap.size X rfl hX ?_) | (refine wpList_store_blok rfl 26 (.tmp 67) (.tmp 65) rfl g 30 (staCells X).toArray rfl rfl hW5 (by simp [staCells_len, workCells_len]) (by rw [sta_size]; simp [staCells_len]) (staCells_one X) ?_; intro w7 B7 g7 _z7))
        first | go_end0 | refine bodyPost_ret (results_none rfl _ _ _) rfl ?_
        rw [show r = some X by rw [HR2.out, HV.out]; rfl]
        exact ⟨rfl, work_store B7, grown_then hB6 g7⟩
    · have hgy' : some y ≠ some g := fun e => hgy (Option.some.inj e).symm
      have y0 := hY.cell 0
      have y1 := hY.cell 1
      have y2 := hY.cell 2
      have y3 := hY.cell 3
      simp only [flgCells, List.getElem?_cons_zero, List.getElem?_cons_succ] at y0 y1 y2 y3
      cases d
      · have hR2 : r = some (if i.s = true then markS s F else s) := by
          rw [hR]; cases i.s <;> simp
        have HR2 := Lib.hid hR2
        clear hR hR2 hA PT
        cases zs : i.s
        · rw [zs] at c64
          go_wp2_with fail
          first | go_end0 | refine bodyPost_ret (results_none rfl _ _ _) rfl ?_
          rw [show r = some s by rw [HR2.out, zs]; rfl]
          exact ⟨rfl, hW, grown_of hb _⟩
        · rw [zs] at c64
          go_wp2_with (go_at_call 67; (with_reducible refine (MK.out _ _ hW).mono ?_); rintro e w9 ⟨rfl, B9, g9⟩)
          first | go_end0 | refine bodyPost_ret (results_none rfl _ _ _) rfl ?_
          rw [show r = some (markS s F) by rw [HR2.out, zs]; rfl]
          exact ⟨rfl, B9, grown_then hb g9⟩
      · cases zs : i.s
        · have HR2 := Lib.hid (show r = some (putS s i.rd v) by rw [hR, zs]; simp)
          clear hR hA MK
          rw [zs] at c64
          go_wp2_with (go_at_call 66; (with_reducible refine (PT.out).mono ?_); rintro e w8 ⟨rfl, B8, g8⟩; have e64 : w8.cell? ⟨g, 64, none⟩ = some (.bool i.s) := B8.cell 64; rw [zs] at e64)
          first | go_end0 | refine bodyPost_ret (results_none rfl _ _ _) rfl ?_
          rw [HR2.out]
          exact ⟨rfl, B8, grown_then hb g8⟩
        · have zr : (i.rd == 15) = false := by simp; intro hz; exact hA ⟨rfl, zs, hz⟩
          have HR2 := Lib.hid (show r = some (markS (putS s i.rd v) F) by
            rw [hR, zs, if_neg (by simpa using zr)]; rfl)
          clear hR hA
          rw [zs] at c64
          go_wp2_with (first | (go_at_call 66; (with_reducible refine (PT.out).mono ?_); rintro e w8 ⟨rfl, B8, g8⟩; have e64 : w8.cell? ⟨g, 64, none⟩ = some (.bool i.s) := B8.cell 64; rw [zs] at e64; have hY8 := hY.grown g8 hgy'; have z0 := hY8.cell 0; have z1 := hY8.cell 1; have z2 := hY8.cell 2; have z3 := hY8.cell 3; simp only [flgCells, List.getElem?_cons_zero, List.getElem?_cons_succ] at z0 z1 z2 z3) | (go_at_call 67; (with_reducible refine (MK.out _ _ B8).mono ?_); rintro e w9 ⟨rfl, B9, g9⟩))
          first | go_end0 | refine bodyPost_ret (results_none rfl _ _ _) rfl ?_
          rw [HR2.out]
          exact ⟨rfl, B9, grown_then hb (gtrans g8 g9)⟩
end Go.Proofs.Ytpfhplhamnohjaa
