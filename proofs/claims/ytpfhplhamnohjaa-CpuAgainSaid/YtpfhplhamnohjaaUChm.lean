/- Layer 20: enter, back. -/
import Derived.Test.YtpfhplhamnohjaaG09
namespace Go.Proofs.Ytpfhplhamnohjaa
set_option maxHeartbeats 25600000
set_option maxRecDepth 100000
open Go.RowKit

/-- an exception of a mode: the state behind it -/
def entS (s : Sta) (m b v : Int) : Sta :=
  set (set (set (set s (23 + (bankB m).1.toNat) (s 29)) (18 + (bankB m).1.toNat) b) 29 (bits .or .u32 (bits .or .u32 (bits .andNot .u32 (s 29) 31) m) 128)) 28 v
theorem enter_is (s : Sta) (on : Bool) (g : Nat) (t : TypeId) (m b v : Int) (hm : m = 18 ∨ m = 19 ∨ m = 23 ∨ m = 27) (W : World) (h : Blok W g t (cpuCells s on)) :
    Calls Try.prog 28 #[.pointer (some ⟨g, 0, none⟩), .int .i64 m, .int .u32 b, .int .u32 v] W fun e w' => e = .returned (.tuple #[]) ∧ Blok w' g t (cpuCells (entS s m b v) on) ∧ W.grownBy w' (some g) := by
  have c29 := cpu_cell h 29 (by omega)
  have c28 := cpu_cell h 28 (by omega)
  have f29 := h.frozen 29
  have f28 := h.frozen 28
  rcases hm with rfl | rfl | rfl | rfl
  · go_enter Try.func28, Try.ntmps28
    have e0 : bankB 18 = (4, true) := by decide
    have R := Lib.hid (fun W => Bank_is 18 W)
    rw [e0] at R
    clear e0
    have cp := cpu_cell h 27 (by omega)
    have fp := h.frozen 27
    have cq := cpu_cell h 22 (by omega)
    have fq := h.frozen 22
    have HB := Lib.hid (show Blok ((((W.drew.setCell ⟨g, 27, none⟩ (.int .u32 (s 29))).setCell ⟨g, 22, none⟩ (.int .u32 b)).setCell ⟨g, 29, none⟩ (.int .u32 (bits .or .u32 (bits .or .u32 (bits .andNot .u32 (s 29) 31) 18) 128))).setCell ⟨g, 28, none⟩ (.int .u32 v)) g t (cpuCells (entS s 18 b v) on) from ((((Blok.drewN h 1).setcpu 27 (by omega) _).setcpu 22 (by omega) _).setcpu 29 (by omega) _).setcpu 28 (by omega) _)
    go_wp2_with (go_at_call 31; (with_reducible refine (R.out _).mono ?_); rintro e w1 ⟨rfl, rfl⟩)
    go_region_held3 (fun w' => w'.cell? ⟨g, 29, none⟩ = some (.int .u32 (s 29))) (first | assumption | (simp [go_sem, World.cell?_setCell_other, c29]; done)) (first | fail)
    go_wp2
    go_end0
    exact ⟨rfl, HB.out, gtrans (gtrans (gtrans (gtrans (grown_then (w := W) (wr := W.drew) (bdrew (Below.refl _ _)) (World.grownBy.refl _ _)) (grown_one _ _ _ _)) (grown_one _ _ _ _)) (grown_one _ _ _ _)) (grown_one _ _ _ _)⟩
  · go_enter Try.func28, Try.ntmps28
    have e0 : bankB 19 = (1, true) := by decide
    have R := Lib.hid (fun W => Bank_is 19 W)
    rw [e0] at R
    clear e0
    have cp := cpu_cell h 24 (by omega)
    have fp := h.frozen 24
    have cq := cpu_cell h 19 (by omega)
    have fq := h.frozen 19
    have HB := Lib.hid (show Blok ((((W.drew.setCell ⟨g, 24, none⟩ (.int .u32 (s 29))).setCell ⟨g, 19, none⟩ (.int .u32 b)).setCell ⟨g, 29, none⟩ (.int .u32 (bits .or .u32 (bits .or .u32 (bits .andNot .u32 (s 29) 31) 19) 128))).setCell ⟨g, 28, none⟩ (.int .u32 v)) g t (cpuCells (entS s 19 b v) on) from ((((Blok.drewN h 1).setcpu 24 (by omega) _).setcpu 19 (by omega) _).setcpu 29 (by omega) _).setcpu 28 (by omega) _)
    go_wp2_with (go_at_call 31; (with_reducible refine (R.out _).mono ?_); rintro e w1 ⟨rfl, rfl⟩)
    go_region_held3 (fun w' => w'.cell? ⟨g, 29, none⟩ = some (.int .u32 (s 29))) (first | assumption | (simp [go_sem, World.cell?_setCell_other, c29]; done)) (first | fail)
    go_wp2
    go_end0
    exact ⟨rfl, HB.out, gtrans (gtrans (gtrans (gtrans (grown_then (w := W) (wr := W.drew) (bdrew (Below.refl _ _)) (World.grownBy.refl _ _)) (grown_one _ _ _ _)) (grown_one _ _ _ _)) (grown_one _ _ _ _)) (grown_one _ _ _ _)⟩
  · go_enter Try.func28, Try.ntmps28
    have e0 : bankB 23 = (2, true) := by decide
    have R := Lib.hid (fun W => Bank_is 23 W)
    rw [e0] at R
    clear e0
    have cp := cpu_cell h 25 (by omega)
    have fp := h.frozen 25
    have cq := cpu_cell h 20 (by omega)
    have fq := h.frozen 20
    have HB := Lib.hid (show Blok ((((W.drew.setCell ⟨g, 25, none⟩ (.int .u32 (s 29))).setCell ⟨g, 20, none⟩ (.int .u32 b)).setCell ⟨g, 29, none⟩ (.int .u32 (bits .or .u32 (bits .or .u32 (bits .andNot .u32 (s 29) 31) 23) 128))).setCell ⟨g, 28, none⟩ (.int .u32 v)) g t (cpuCells (entS s 23 b v) on) from ((((Blok.drewN h 1).setcpu 25 (by omega) _).setcpu 20 (by omega) _).setcpu 29 (by omega) _).setcpu 28 (by omega) _)
    go_wp2_with (go_at_call 31; (with_reducible refine (R.out _).mono ?_); rintro e w1 ⟨rfl, rfl⟩)
    go_region_held3 (fun w' => w'.cell? ⟨g, 29, none⟩ = some (.int .u32 (s 29))) (first | assumption | (simp [go_sem, World.cell?_setCell_other, c29]; done)) (first | fail)
    go_wp2
    go_end0
    exact ⟨rfl, HB.out, gtrans (gtrans (gtrans (gtrans (grown_then (w := W) (wr := W.drew) (bdrew (Below.refl _ _)) (World.grownBy.refl _ _)) (grown_one _ _ _ _)) (grown_one _ _ _ _)) (grown_one _ _ _ _)) (grown_one _ _ _ _)⟩
  · go_enter Try.func28, Try.ntmps28
    have e0 : bankB 27 = (3, true) := by decide
    have R := Lib.hid (fun W => Bank_is 27 W)
    rw [e0] at R
    clear e0
    have cp := cpu_cell h 26 (by omega)
    have fp := h.frozen 26
    have cq := cpu_cell h 21 (by omega)
    have fq := h.frozen 21
    have HB := Lib.hid (show Blok ((((W.drew.setCell ⟨g, 26, none⟩ (.int .u32 (s 29))).setCell ⟨g, 21, none⟩ (.int .u32 b)).setCell ⟨g, 29, none⟩ (.int .u32 (bits .or .u32 (bits .or .u32 (bits .andNot .u32 (s 29) 31) 27) 128))).setCell ⟨g, 28, none⟩ (.int .u32 v)) g t (cpuCells (entS s 27 b v) on) from ((((Blok.drewN h 1).setcpu 26 (by omega) _).setcpu 21 (by omega) _).setcpu 29 (by omega) _).setcpu 28 (by omega) _)
    go_wp2_with (go_at_call 31; (with_reducible refine (R.out _).mono ?_); rintro e w1 ⟨rfl, rfl⟩)
    go_region_held3 (fun w' => w'.cell? ⟨g, 29, none⟩ = some (.int .u32 (s 29))) (first | assumption | (simp [go_sem, World.cell?_setCell_other, c29]; done)) (first | fail)
    go_wp2
    go_end0
    exact ⟨rfl, HB.out, gtrans (gtrans (gtrans (gtrans (grown_then (w := W) (wr := W.drew) (bdrew (Below.refl _ _)) (World.grownBy.refl _ _)) (grown_one _ _ _ _)) (grown_one _ _ _ _)) (grown_one _ _ _ _)) (grown_one _ _ _ _)⟩
end Go.Proofs.Ytpfhplhamnohjaa
