/- Layer 20: product. -/
import Derived.Test.YtpfhplhamnohjaaUKem
namespace Go.Proofs.Ytpfhplhamnohjaa
set_option maxHeartbeats 25600000
set_option maxRecDepth 100000
open Go.RowKit

def prodF (o : Sta) (h l : Int) (wd : Bool) : Flg := { flagsI (o 29) with n := (if wd then h else l) / 2147483648 == 1, z := if wd then bits .or .u32 h l == 0 else l == 0 }
def prodS (o s : Sta) (at_ : Int) (i : Ins) : Sta :=
  if i.op ≤ 20 then
    (let r := longI i.op (getI o at_ i.rm) (getI o at_ i.rs) 0 (getI o at_ i.ra)
     if i.s then markS (putS s i.rd r.2) (prodF o r.1 r.2 false) else putS s i.rd r.2)
  else
    (let r := longI i.op (getI o at_ i.rm) (getI o at_ i.rs) (getI o at_ i.rd) (getI o at_ i.ra)
     if i.s then markS (putS (putS s i.ra r.2) i.rd r.1) (prodF o r.1 r.2 true) else putS (putS s i.ra r.2) i.rd r.1)
theorem longI_u (op m s h l : Int) : (0 ≤ (longI op m s h l).1 ∧ (longI op m s h l).1 < 4294967296) ∧ (0 ≤ (longI op m s h l).2 ∧ (longI op m s h l).2 < 4294967296) := by
  unfold longI
  by_cases h1 : op = 19
  · rw [if_pos h1]; simp only; omega
  rw [if_neg h1]
  by_cases h2 : op = 20
  · rw [if_pos h2]; simp only; omega
  rw [if_neg h2]
  by_cases h3 : op = 21
  · rw [if_pos h3]; simp only; omega
  rw [if_neg h3]
  by_cases h4 : op = 22
  · rw [if_pos h4]; simp only; omega
  rw [if_neg h4]
  by_cases h5 : op = 23
  · rw [if_pos h5]; simp only; omega
  rw [if_neg h5]; simp only; omega
theorem product_done (o s : Sta) (b : Value) (at_ : Int) (i : Ins) (wt : Bool) (g : Nat) (t : TypeId) (ho : OkS o) (hs : OkS s) (hi : InsOk i) (hop : 19 ≤ i.op ∧ i.op ≤ 24) (W : World) (h : Blok W g t (workCells o s b at_ i wt)) :
    Calls Try.prog 49 #[.pointer (some ⟨g, 0, none⟩)] W (Done W g t o s b at_ i wt (some (prodS o s at_ i))) := by
  have hlt := h.lt
  have HB := Lib.hid (fun w' (k : Below W.heap.size W w') => h.below k hlt)
  have GM := Lib.hid (fun w' k => get_is' o s b at_ i wt g t i.rm ho hi.rm w' (HB.out w' k))
  have GS := Lib.hid (fun w' k => get_is' o s b at_ i wt g t i.rs ho hi.rs w' (HB.out w' k))
  have GA := Lib.hid (fun w' k => get_is' o s b at_ i wt g t i.ra ho hi.ra w' (HB.out w' k))
  have GD := Lib.hid (fun w' k => get_is' o s b at_ i wt g t i.rd ho hi.rd w' (HB.out w' k))
  have FL := Lib.hid (flags_is o s b at_ i wt g t ho W h)
  have MK := Lib.hid (fun s' (f : Flg) w' (k : Blok w' g t (workCells o s' b at_ i wt)) => mark_is o s' b at_ i wt g t f w' k)
  have PD := Lib.hid (fun s' (hs' : OkS s') v w' (k : Blok w' g t (workCells o s' b at_ i wt)) => put_is o s' b at_ i wt g t i.rd v hs' hi.rd w' k)
  have PA := Lib.hid (fun s' (hs' : OkS s') v w' (k : Blok w' g t (workCells o s' b at_ i wt)) => put_is o s' b at_ i wt g t i.ra v hs' hi.ra w' k)
  have um := getI_u o at_ i.rm ho hi.rm.1
  have us := getI_u o at_ i.rs ho hi.rs.1
  have ua := getI_u o at_ i.ra ho hi.ra.1
  have ud := getI_u o at_ i.rd ho hi.rd.1
  obtain ⟨T, hT⟩ : ∃ T, T = prodS o s at_ i := ⟨_, rfl⟩
  rw [← hT]
  unfold prodS prodF at hT
  have hf : (flgCells (flagsI (o 29))).toArray = #[.bool (flagsI (o 29)).n, .bool (flagsI (o 29)).z, .bool (flagsI (o 29)).c, .bool (flagsI (o 29)).v] := rfl
  rw [hf] at FL
  clear hf
  generalize flagsI (o 29) = f at FL hT
  obtain ⟨fn, fz, fc, fv⟩ := f
  dsimp only at FL hT
  by_cases h20 : i.op ≤ 20
  · rw [if_pos h20] at hT
    have LG := Lib.hid (fun W => Long_is i.op (getI o at_ i.rm) (getI o at_ i.rs) 0 (getI o at_ i.ra) hop um us (by omega) ua W)
    have lu := longI_u i.op (getI o at_ i.rm) (getI o at_ i.rs) 0 (getI o at_ i.ra)
    clear um us ua ud hop GD PA
    generalize longI i.op (getI o at_ i.rm) (getI o at_ i.rs) 0 (getI o at_ i.ra) = r at LG hT lu
    obtain ⟨rh, rl⟩ := r
    dsimp only at LG hT lu
    generalize getI o at_ i.rm = xm at GM LG
    generalize getI o at_ i.rs = xs at GS LG
    generalize getI o at_ i.ra = xa at GA LG
    have HT := Lib.hid hT
    obtain ⟨⟨_, _⟩, l0, l1⟩ := lu
    clear hT
    go_enter Try.func49, Try.ntmps49
    go_upto_region 1 with (go_at_call 65; (with_reducible refine (FL.out).mono ?_); rintro e w1 ⟨rfl, b1⟩)
    have hY := Blok.new w1 66 [.bool fn, .bool fz, .bool fc, .bool fv]
    change Blok (w1.alloc (.cells #[.bool fn, .bool fz, .bool fc, .bool fv] 66)) w1.heap.size _ _ at hY
    have b2 : Below W.heap.size W (w1.alloc (.cells #[.bool fn, .bool fz, .bool fc, .bool fv] 66)) := b1.alloc b1.size _
    have hyW := b1.size
    generalize w1.alloc (.cells #[.bool fn, .bool fz, .bool fc, .bool fv] 66) = w2 at hY b2 ⊢
    generalize w1.heap.size = y at hY hyW ⊢
    have hW := HB.out w2 b2
    have hgy : g ≠ y := by omega
    have hgy' : some y ≠ some g := fun e => hgy (Option.some.inj e).symm
    have c63 : w2.cell? ⟨g, 63, none⟩ = some (.int .i64 i.op) := hW.cell 63
    have c66 : w2.cell? ⟨g, 66, none⟩ = some (.int .i64 i.rd) := hW.cell 66
    have c68 : w2.cell? ⟨g, 68, none⟩ = some (.int .i64 i.rm) := hW.cell 68
    have c69 : w2.cell? ⟨g, 69, none⟩ = some (.int .i64 i.rs) := hW.cell 69
    have c70 : w2.cell? ⟨g, 70, none⟩ = some (.int .i64 i.ra) := hW.cell 70
    clear HB hgy
    go_wp2_with fail
    go_quiet (first | (go_at_call 68; exact Calls.quiet_of_same ((LG.out _).mono fun _ _ h => ⟨h.1, h.2.symm⟩)) | (go_at_call_of 64 (Value.int IntKind.i64 i.rm); exact Calls.quiet_of (GM.out _ (bdrewN b2 _))) | (go_at_call_of 64 (Value.int IntKind.i64 i.rs); exact Calls.quiet_of (GS.out _ (bdrewN b2 _))) | (go_at_call_of 64 (Value.int IntKind.i64 i.ra); exact Calls.quiet_of (GA.out _ (bdrewN b2 _))))
    go_upto_region 4 with (go_at_call 66; (with_reducible refine (PD.out s hs _ _ (hW.drewN _)).mono ?_); rintro e w3 ⟨rfl, B3, g3⟩)
    have hY3 := (hY.drewN nq).grown g3 hgy'
    have y0 := hY3.cell 0
    have y1 := hY3.cell 1
    have f0 := hY3.frozen 0
    have f1 := hY3.frozen 1
    simp only [List.getElem?_cons_zero, List.getElem?_cons_succ] at y0 y1
    have G3 : W.grownBy w3 (some g) := grown_then (bdrewN b2 nq) g3
    clear c63 c66 c68 c69 c70 hW hY
    go_upto_region 9 with fail
    have hW4 := (B3.far (p := ⟨y, 0, none⟩) (by simp; omega) (.bool (rl / 2147483648 == 1))).far (p := ⟨y, 1, none⟩) (by simp; omega) (.bool (rl == 0))
    have hY4 := (hY3.set_ 0 (.bool (rl / 2147483648 == 1))).set_ 1 (.bool (rl == 0))
    have G4 : W.grownBy ((w3.setCell ⟨y, 0, none⟩ (.bool (rl / 2147483648 == 1))).setCell ⟨y, 1, none⟩ (.bool (rl == 0))) (some g) := by
      have q := gtrans (grown_one w3 y 0 (.bool (rl / 2147483648 == 1))) (grown_one _ y 1 (.bool (rl == 0)))
      exact ⟨q.os.trans G3.os, q.tape.trans G3.tape, q.output.trans G3.output, Nat.le_trans G3.size q.size, fun j hj hne => (q.block j (Nat.lt_of_lt_of_le hj G3.size) (fun e => by have := Option.some.inj e; omega)).trans (G3.block j hj hne)⟩
    generalize (w3.setCell ⟨y, 0, none⟩ (.bool (rl / 2147483648 == 1))).setCell ⟨y, 1, none⟩ (.bool (rl == 0)) = w4 at hW4 hY4 G4 ⊢
    have c64 : w4.cell? ⟨g, 64, none⟩ = some (.bool i.s) := hW4.cell 64
    have z0 := hY4.cell 0
    have z1 := hY4.cell 1
    have z2 := hY4.cell 2
    have z3 := hY4.cell 3
    simp only [List.set_cons_zero, List.set_cons_succ, List.getElem?_cons_zero, List.getElem?_cons_succ] at z0 z1 z2 z3
    clear y0 y1 f0 f1
    cases zs : i.s
    · rw [zs] at c64
      go_wp2_with fail
      first | go_end0 | refine bodyPost_ret (results_none rfl _ _ _) rfl ?_
      rw [HT.out, zs]
      exact ⟨rfl, hW4, G4⟩
    · rw [zs] at c64
      go_wp2_with (go_at_call 67; (with_reducible refine (MK.out _ ⟨_, _, _, _⟩ _ hW4).mono ?_); rintro e w9 ⟨rfl, B9, g9⟩)
      first | go_end0 | refine bodyPost_ret (results_none rfl _ _ _) rfl ?_
      rw [HT.out, zs]
      exact ⟨rfl, B9, gtrans G4 g9⟩
  · rw [if_neg h20] at hT
    have LG := Lib.hid (fun W => Long_is i.op (getI o at_ i.rm) (getI o at_ i.rs) (getI o at_ i.rd) (getI o at_ i.ra) hop um us ud ua W)
    have lu := longI_u i.op (getI o at_ i.rm) (getI o at_ i.rs) (getI o at_ i.rd) (getI o at_ i.ra)
    clear um us ua ud hop
    generalize longI i.op (getI o at_ i.rm) (getI o at_ i.rs) (getI o at_ i.rd) (getI o at_ i.ra) = r at LG hT lu
    obtain ⟨rh, rl⟩ := r
    dsimp only at LG hT lu
    generalize getI o at_ i.rm = xm at GM LG
    generalize getI o at_ i.rs = xs at GS LG
    generalize getI o at_ i.ra = xa at GA LG
    generalize getI o at_ i.rd = xd at GD LG
    have HT := Lib.hid hT
    have hs2 := okS_put hs i.ra lu.2
    obtain ⟨⟨r0, r1⟩, l0, l1⟩ := lu
    clear hT
    go_enter Try.func49, Try.ntmps49
    go_upto_region 1 with (go_at_call 65; (with_reducible refine (FL.out).mono ?_); rintro e w1 ⟨rfl, b1⟩)
    have hY := Blok.new w1 66 [.bool fn, .bool fz, .bool fc, .bool fv]
    change Blok (w1.alloc (.cells #[.bool fn, .bool fz, .bool fc, .bool fv] 66)) w1.heap.size _ _ at hY
    have b2 : Below W.heap.size W (w1.alloc (.cells #[.bool fn, .bool fz, .bool fc, .bool fv] 66)) := b1.alloc b1.size _
    have hyW := b1.size
    generalize w1.alloc (.cells #[.bool fn, .bool fz, .bool fc, .bool fv] 66) = w2 at hY b2 ⊢
    generalize w1.heap.size = y at hY hyW ⊢
    have hW := HB.out w2 b2
    have hgy : g ≠ y := by omega
    have hgy' : some y ≠ some g := fun e => hgy (Option.some.inj e).symm
    have c63 : w2.cell? ⟨g, 63, none⟩ = some (.int .i64 i.op) := hW.cell 63
    have c66 : w2.cell? ⟨g, 66, none⟩ = some (.int .i64 i.rd) := hW.cell 66
    have c68 : w2.cell? ⟨g, 68, none⟩ = some (.int .i64 i.rm) := hW.cell 68
    have c69 : w2.cell? ⟨g, 69, none⟩ = some (.int .i64 i.rs) := hW.cell 69
    have c70 : w2.cell? ⟨g, 70, none⟩ = some (.int .i64 i.ra) := hW.cell 70
    clear HB hgy
    go_wp2_with fail
    go_quiet (first | (go_at_call 68; exact Calls.quiet_of_same ((LG.out _).mono fun _ _ h => ⟨h.1, h.2.symm⟩)) | (go_at_call_of 64 (Value.int IntKind.i64 i.rm); exact Calls.quiet_of (GM.out _ (bdrewN b2 _))) | (go_at_call_of 64 (Value.int IntKind.i64 i.rs); exact Calls.quiet_of (GS.out _ (bdrewN b2 _))) | (go_at_call_of 64 (Value.int IntKind.i64 i.ra); exact Calls.quiet_of (GA.out _ (bdrewN b2 _))) | (go_at_call_of 64 (Value.int IntKind.i64 i.rd); exact Calls.quiet_of (GD.out _ (bdrewN b2 _))))
    go_upto_region 7 with (go_at_call 66; (with_reducible refine (PA.out s hs _ _ (hW.drewN _)).mono ?_); rintro e w5 ⟨rfl, B5, g5⟩)
    have e66 : w5.cell? ⟨g, 66, none⟩ = some (.int .i64 i.rd) := B5.cell 66
    go_upto_region 8 with (go_at_call 66; (with_reducible refine (PD.out _ hs2 _ _ B5).mono ?_); rintro e w3 ⟨rfl, B3, g3⟩)
    have hY3 := ((hY.drewN nq).grown g5 hgy').grown g3 hgy'
    have y0 := hY3.cell 0
    have y1 := hY3.cell 1
    have f0 := hY3.frozen 0
    have f1 := hY3.frozen 1
    simp only [List.getElem?_cons_zero, List.getElem?_cons_succ] at y0 y1
    have G3 : W.grownBy w3 (some g) := gtrans (grown_then (bdrewN b2 nq) g5) g3
    clear c63 c66 c68 c69 c70 hW hY e66
    go_upto_region 9 with fail
    have hW4 := (B3.far (p := ⟨y, 0, none⟩) (by simp; omega) (.bool (rh / 2147483648 == 1))).far (p := ⟨y, 1, none⟩) (by simp; omega) (.bool (bits .or .u32 rh rl == 0))
    have hY4 := (hY3.set_ 0 (.bool (rh / 2147483648 == 1))).set_ 1 (.bool (bits .or .u32 rh rl == 0))
    have G4 : W.grownBy ((w3.setCell ⟨y, 0, none⟩ (.bool (rh / 2147483648 == 1))).setCell ⟨y, 1, none⟩ (.bool (bits .or .u32 rh rl == 0))) (some g) := by
      have q := gtrans (grown_one w3 y 0 (.bool (rh / 2147483648 == 1))) (grown_one _ y 1 (.bool (bits .or .u32 rh rl == 0)))
      exact ⟨q.os.trans G3.os, q.tape.trans G3.tape, q.output.trans G3.output, Nat.le_trans G3.size q.size, fun j hj hne => (q.block j (Nat.lt_of_lt_of_le hj G3.size) (fun e => by have := Option.some.inj e; omega)).trans (G3.block j hj hne)⟩
    generalize (w3.setCell ⟨y, 0, none⟩ (.bool (rh / 2147483648 == 1))).setCell ⟨y, 1, none⟩ (.bool (bits .or .u32 rh rl == 0)) = w4 at hW4 hY4 G4 ⊢
    have c64 : w4.cell? ⟨g, 64, none⟩ = some (.bool i.s) := hW4.cell 64
    have z0 := hY4.cell 0
    have z1 := hY4.cell 1
    have z2 := hY4.cell 2
    have z3 := hY4.cell 3
    simp only [List.set_cons_zero, List.set_cons_succ, List.getElem?_cons_zero, List.getElem?_cons_succ] at z0 z1 z2 z3
    clear y0 y1 f0 f1
    cases zs : i.s
    · rw [zs] at c64
      go_wp2_with fail
      first | go_end0 | refine bodyPost_ret (results_none rfl _ _ _) rfl ?_
      rw [HT.out, zs]
      exact ⟨rfl, hW4, G4⟩
    · rw [zs] at c64
      go_wp2_with (go_at_call 67; (with_reducible refine (MK.out _ ⟨_, _, _, _⟩ _ hW4).mono ?_); rintro e w9 ⟨rfl, B9, g9⟩)
      first | go_end0 | refine bodyPost_ret (results_none rfl _ _ _) rfl ?_
      rw [HT.out, zs]
      exact ⟨rfl, B9, gtrans G4 g9⟩
end Go.Proofs.Ytpfhplhamnohjaa
