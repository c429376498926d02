/- The law's held of layer 8: what all registers hold. -/
import Derived.Test.YtakihcdolpocjaaDoorCFile
namespace Go.Proofs.YtakihcdolpocjaaDoor
open Go.RowKit

def heldTo (rs : List Int) (k : Nat) : List Int := (List.range 13).map (fun i => if i < k then rg rs i else 0)
theorem heldTo_len (rs : List Int) (k : Nat) : (heldTo rs k).length = 13 := by simp [heldTo]
theorem heldTo_next (rs : List Int) (k : Nat) (hk : k < 13) : heldTo rs (k + 1) = (heldTo rs k).set k (rg rs k) := by
  obtain rfl | rfl | rfl | rfl | rfl | rfl | rfl | rfl | rfl | rfl | rfl | rfl | rfl : k = 0 ∨ k = 1 ∨ k = 2 ∨ k = 3 ∨ k = 4 ∨ k = 5 ∨ k = 6 ∨ k = 7 ∨ k = 8 ∨ k = 9 ∨ k = 10 ∨ k = 11 ∨ k = 12 := by omega
  all_goals rfl
theorem heldTo_13 (rs : List Int) (h : rs.length = 13) : heldTo rs 13 = rs := by
  match rs, h with
  | [a0, a1, a2, a3, a4, a5, a6, a7, a8, a9, a10, a11, a12], _ => rfl
set_option maxHeartbeats 3200000 in
set_option maxRecDepth 100000 in
theorem held_is (fb : Nat) (rs : List Int) (w : World) (h : IsFile w 63 fb rs) :
    Calls Tryd.prog 13 #[.pointer (some ⟨fb, 0, none⟩)] w fun e w' => e = .returned (.agg (regCells rs).toArray) ∧ Below w.heap.size w w' := by
  have Z0 : Blok ((w.alloc (.cells (regCells (heldTo rs 0)).toArray 37)).alloc (.cells (regCells (heldTo rs 0)).toArray 37)) w.heap.size 37 (regCells (heldTo rs 0)) := (Blok.new w _ _).alloc _
  have H0 : IsFile ((w.alloc (.cells (regCells (heldTo rs 0)).toArray 37)).alloc (.cells (regCells (heldTo rs 0)).toArray 37)) 37 (w.heap.size + 1) (heldTo rs 0) := by
    refine ⟨?_, heldTo_len rs 0⟩
    have := Blok.new (w.alloc (.cells (regCells (heldTo rs 0)).toArray 37)) 37 (regCells (heldTo rs 0))
    have e : (w.alloc (.cells (regCells (heldTo rs 0)).toArray 37)).heap.size = w.heap.size + 1 := by simp
    rwa [e] at this
  have F0 := (h.alloc (.cells (regCells (heldTo rs 0)).toArray 37)).alloc (.cells (regCells (heldTo rs 0)).toArray 37)
  have hfl := h.b.lt
  go_enter Tryd.func13, Tryd.ntmps13
  go_wp2
  go_loopw [4] (fun v4 wr => ∃ k : Nat, k ≤ 13 ∧ v4 = .int .i64 k ∧ IsFile wr 37 (w.heap.size + 1) (heldTo rs k) ∧ IsFile wr 63 fb rs ∧ Blok wr w.heap.size 37 (regCells (heldTo rs 0)) ∧ Below w.heap.size w wr) (fun v4 _ => 13 - (intOf v4).toNat)
  case atStart => exact ⟨0, Nat.zero_le _, rfl, H0, F0, Z0, ((Below.refl _ _).alloc (Nat.le_refl _) _).alloc (by simp) _⟩
  case round =>
    clear H0 F0 Z0
    obtain ⟨k, hk, rfl, hH, hF, hZ, hB⟩ := hrel
    by_cases hlt : k < 13
    · have GT := Lib.hid (Get_yes 63 fb rs k hlt wr hF)
      have c := hH.cell k hlt
      have f : wr.frozen? ⟨w.heap.size + 1, k, none⟩ = false := hH.b.frozen k
      have i0 : (0 : Int) ≤ ↑k := by omega
      have i1 : (↑k : Int) < 13 := by omega
      have HS := Lib.hid (heldTo_next rs k hlt)
      go_wp2_with fail
      refine GT.out.mono ?_
      rintro e w1 ⟨rfl, rfl⟩
      go_wp2_with fail
      go_roundw
      case rel => exact ⟨k + 1, by omega, by go_num, by rw [HS.out]; exact hH.put k _, ⟨hF.b.far (show fb ≠ w.heap.size + 1 by omega) _, hF.len⟩, hZ.far (show w.heap.size ≠ w.heap.size + 1 by omega) _, hB.setCell (p := ⟨w.heap.size + 1, k, none⟩) (show w.heap.size ≤ w.heap.size + 1 by omega) _⟩
      case measure => simp [intOf]; omega
    · obtain rfl : k = 13 := by omega
      rw [heldTo_13 rs h.len] at hH
      have hcs : regCells rs = [.int .u32 (rg rs 0), .int .u32 (rg rs 1), .int .u32 (rg rs 2), .int .u32 (rg rs 3), .int .u32 (rg rs 4), .int .u32 (rg rs 5), .int .u32 (rg rs 6), .int .u32 (rg rs 7), .int .u32 (rg rs 8), .int .u32 (rg rs 9), .int .u32 (rg rs 10), .int .u32 (rg rs 11), .int .u32 (rg rs 12)] := by
        obtain ⟨b, hl⟩ := hH
        match rs, hl with
        | [a0, a1, a2, a3, a4, a5, a6, a7, a8, a9, a10, a11, a12], _ => rfl
      have c0 := hH.cell 0 (by omega)
      have c1 := hH.cell 1 (by omega)
      have c2 := hH.cell 2 (by omega)
      have c3 := hH.cell 3 (by omega)
      have c4 := hH.cell 4 (by omega)
      have c5 := hH.cell 5 (by omega)
      have c6 := hH.cell 6 (by omega)
      have c7 := hH.cell 7 (by omega)
      have c8 := hH.cell 8 (by omega)
      have c9 := hH.cell 9 (by omega)
      have c10 := hH.cell 10 (by omega)
      have c11 := hH.cell 11 (by omega)
      have c12 := hH.cell 12 (by omega)
      go_wp2_with (refine wpList_store_blok rfl _ (.tmp 2) (.tmp 20) rfl w.heap.size 0 (#[.int .u32 (rg rs 0), .int .u32 (rg rs 1), .int .u32 (rg rs 2), .int .u32 (rg rs 3), .int .u32 (rg rs 4), .int .u32 (rg rs 5), .int .u32 (rg rs 6), .int .u32 (rg rs 7), .int .u32 (rg rs 8), .int .u32 (rg rs 9), .int .u32 (rg rs 10), .int .u32 (rg rs 11), .int .u32 (rg rs 12)]) rfl rfl hZ (by simp [regCells, heldTo_len]) (by kernel_rfl) rfl ?_; intro w4 hb4 hg4 hz4)
      have r0 := hb4.cell 0
      have r1 := hb4.cell 1
      have r2 := hb4.cell 2
      have r3 := hb4.cell 3
      have r4 := hb4.cell 4
      have r5 := hb4.cell 5
      have r6 := hb4.cell 6
      have r7 := hb4.cell 7
      have r8 := hb4.cell 8
      have r9 := hb4.cell 9
      have r10 := hb4.cell 10
      have r11 := hb4.cell 11
      have r12 := hb4.cell 12
      simp [regCells, heldTo] at r0 r1 r2 r3 r4 r5 r6 r7 r8 r9 r10 r11 r12
      refine bodyPost_ret (v := .agg #[.int .u32 (rg rs 0), .int .u32 (rg rs 1), .int .u32 (rg rs 2), .int .u32 (rg rs 3), .int .u32 (rg rs 4), .int .u32 (rg rs 5), .int .u32 (rg rs 6), .int .u32 (rg rs 7), .int .u32 (rg rs 8), .int .u32 (rg rs 9), .int .u32 (rg rs 10), .int .u32 (rg rs 11), .int .u32 (rg rs 12)]) (by simp [results, Tryd.results13, go_sem, r0, r1, r2, r3, r4, r5, r6, r7, r8, r9, r10, r11, r12]) rfl ⟨?_, ?_⟩
      · first | rfl | rw [hcs]
      · exact (((GrownS.ofBelow hB).one (S := fun b => w.heap.size ≤ b) hg4 (Nat.le_refl _)).bel (Nat.le_refl _) (fun i hi => hi))
end Go.Proofs.YtakihcdolpocjaaDoor
