/- The walk of the law Cp15Seen of layer 8. -/
import Derived.Test.YtakihcdolpocjaaDoorCSeenP
namespace Go.Proofs.YtakihcdolpocjaaDoor
open Go.RowKit

theorem regCells_lit (rs : List Int) (h : rs.length = 13) : (regCells rs).toArray = #[.int .u32 (rg rs 0), .int .u32 (rg rs 1), .int .u32 (rg rs 2), .int .u32 (rg rs 3), .int .u32 (rg rs 4), .int .u32 (rg rs 5), .int .u32 (rg rs 6), .int .u32 (rg rs 7), .int .u32 (rg rs 8), .int .u32 (rg rs 9), .int .u32 (rg rs 10), .int .u32 (rg rs 11), .int .u32 (rg rs 12)] := by
  match rs, h with
  | [a0, a1, a2, a3, a4, a5, a6, a7, a8, a9, a10, a11, a12], _ => rfl
set_option maxHeartbeats 6400000 in
set_option maxRecDepth 100000 in
theorem seen_walk (p : Option Addr) (cap : Nat) (os : List Op8) (hos : ∀ o ∈ os, o.Ok) (hmax : os.length ≤ maxLen) (word : Int) (w : World) (hs : Rul w) (hO : OpsIn8 w.heap.size w p os) :
    Calls Tryd.prog 7 #[.slice p os.length cap, .int .u32 word] w fun e w' => e = .returned (.bool true) ∧ Below w.heap.size w w' := by
  have hml : os.length < 9223372036854775808 := Nat.lt_of_le_of_lt hmax (by decide)
  clear hmax
  have hgp := hs.pos
  have NR : ∀ W, Rul W → Calls Tryd.prog 8 #[] W fun e w' => ∃ rb, W.heap.size ≤ rb ∧ e = .returned (.pointer (some ⟨rb, 0, none⟩)) ∧ IsFile w' 63 rb startL ∧ Below W.heap.size W w' :=
    fun W hW => (New_is W hW).mono fun e w' h => ⟨_, Nat.le_refl _, h⟩
  have NR := Lib.hid NR
  go_enter Tryd.func7, Tryd.ntmps7
  go_wp2_with fail
  refine (NR.out _ hs).mono ?_
  rintro e w1 ⟨fb, hfb, rfl, F1, b1⟩
  have s1 := hs.below b1
  have l1 := F1.b.lt
  go_wp2_with fail
  refine (NR.out _ s1).mono ?_
  rintro e w2 ⟨gb, hgb, rfl, R2, b2⟩
  have s2 := s1.below b2
  have F2 := F1.below b2
  go_wp2_with fail
  refine (live_is w2 s2).mono ?_
  rintro e w3 ⟨rfl, b3⟩
  have s3 := s2.below b3
  have F3 := F2.below b3
  have R3 := R2.below b3
  have B3 : Below w.heap.size w w3 := bthen (bthen b1 b2) b3
  have hne : fb ≠ gb := by omega
  have hfr : fb ≠ 0 := by omega
  have hgr : gb ≠ 0 := by omega
  have hgb' : w.heap.size ≤ gb := by omega
  clear hgb l1 hgp s1 s2 F1 F2 R2 b1 b2 b3
  go_wp2_with fail
  go_loopw [7] (fun v7 wr => ∃ (k : Nat) (rs : List Int), k ≤ os.length ∧ v7 = .int .i64 k ∧ RegsOk rs ∧ Kept rs ∧ Rul wr ∧ IsFile wr 63 fb rs ∧ IsFile wr 63 gb startL ∧ Below w.heap.size w wr) (fun v7 _ => os.length - (intOf v7).toNat)
  case atStart => exact ⟨0, startL, Nat.zero_le _, rfl, startOk, startKept, s3, F3, R3, B3⟩
  case round =>
    obtain ⟨k, rs, hk, rfl, hok, hkp, s5, F5, R5, B5⟩ := hrel
    clear s3 F3 R3 B3
    by_cases hlt : k < os.length
    · obtain ⟨o, hok'⟩ : ∃ o, os[k]? = some o := ⟨_, List.getElem?_eq_getElem hlt⟩
      have hoo := hos o (List.mem_of_getElem? hok')
      obtain ⟨b, k0, hp, hb, hc⟩ := (hO.below B5) k o hok'
      subst hp
      have AK := Lib.hid (does_is o hoo fb rs wr s5 F5)
      have OK := Lib.hid (doesR_ok o hoo hok hkp)
      have c0 : wr.cell? ⟨b, k0 + k * 8, none⟩ = some (.int .i64 o.kind) := hc 0 _ rfl
      have c1 := hc 1 _ rfl
      have c2 := hc 2 _ rfl
      have c3 := hc 3 _ rfl
      have c4 := hc 4 _ rfl
      have c5 := hc 5 _ rfl
      have c6 := hc 6 _ rfl
      have c7 := hc 7 _ rfl
      have i0 : (0 : Int) ≤ ↑k := by omega
      have i1 : (↑k : Int) < ↑os.length := by omega
      clear hoo hok' hc hok hkp
      go_wp2_with fail
      refine AK.out.mono ?_
      rintro e w6 ⟨rfl, F6, g6⟩
      have s6 := s5.grown g6 (by intro e; exact hfr (Option.some.inj e))
      have R6 := R5.far g6 (by intro e; exact hne (Option.some.inj e))
      have B6 : Below w.heap.size w w6 := ((GrownS.ofBelow (S := fun b => w.heap.size ≤ b) B5).one g6 hfb).bel (Nat.le_refl _) (fun i hi => hi)
      go_wp2
      go_roundw
      case rel => exact ⟨k + 1, _, by omega, by go_num, OK.out.1, OK.out.2, s6, F6, R6, B6⟩
      case measure => simp [intOf]; omega
    · have hke : k = os.length := by omega
      have HD0 := held_is fb rs wr F5
      rw [regCells_lit rs F5.len] at HD0
      have HD := Lib.hid HD0
      clear HD0
      go_wp2_with fail
      refine HD.out.mono ?_
      rintro e w7 ⟨rfl, b7⟩
      have s7 := s5.below b7
      have F7 := (F5.below b7).alloc (.cells #[.int .u32 (rg rs 0), .int .u32 (rg rs 1), .int .u32 (rg rs 2), .int .u32 (rg rs 3), .int .u32 (rg rs 4), .int .u32 (rg rs 5), .int .u32 (rg rs 6), .int .u32 (rg rs 7), .int .u32 (rg rs 8), .int .u32 (rg rs 9), .int .u32 (rg rs 10), .int .u32 (rg rs 11), .int .u32 (rg rs 12)] 37)
      have R7 := (R5.below b7).alloc (.cells #[.int .u32 (rg rs 0), .int .u32 (rg rs 1), .int .u32 (rg rs 2), .int .u32 (rg rs 3), .int .u32 (rg rs 4), .int .u32 (rg rs 5), .int .u32 (rg rs 6), .int .u32 (rg rs 7), .int .u32 (rg rs 8), .int .u32 (rg rs 9), .int .u32 (rg rs 10), .int .u32 (rg rs 11), .int .u32 (rg rs 12)] 37)
      have s7 := s7.alloc (.cells #[.int .u32 (rg rs 0), .int .u32 (rg rs 1), .int .u32 (rg rs 2), .int .u32 (rg rs 3), .int .u32 (rg rs 4), .int .u32 (rg rs 5), .int .u32 (rg rs 6), .int .u32 (rg rs 7), .int .u32 (rg rs 8), .int .u32 (rg rs 9), .int .u32 (rg rs 10), .int .u32 (rg rs 11), .int .u32 (rg rs 12)] 37)
      have B7 := (bthen B5 b7).alloc (bthen B5 b7).size (.cells #[.int .u32 (rg rs 0), .int .u32 (rg rs 1), .int .u32 (rg rs 2), .int .u32 (rg rs 3), .int .u32 (rg rs 4), .int .u32 (rg rs 5), .int .u32 (rg rs 6), .int .u32 (rg rs 7), .int .u32 (rg rs 8), .int .u32 (rg rs 9), .int .u32 (rg rs 10), .int .u32 (rg rs 11), .int .u32 (rg rs 12)] 37)
      obtain ⟨lb, hlb⟩ : ∃ lb, w7.heap.size = lb := ⟨_, rfl⟩
      have L7 : IsFile (w7.alloc (.cells #[.int .u32 (rg rs 0), .int .u32 (rg rs 1), .int .u32 (rg rs 2), .int .u32 (rg rs 3), .int .u32 (rg rs 4), .int .u32 (rg rs 5), .int .u32 (rg rs 6), .int .u32 (rg rs 7), .int .u32 (rg rs 8), .int .u32 (rg rs 9), .int .u32 (rg rs 10), .int .u32 (rg rs 11), .int .u32 (rg rs 12)] 37)) 37 lb rs := by
        refine ⟨?_, F5.len⟩
        have := Blok.new w7 37 (regCells rs)
        rw [regCells_lit rs F5.len, hlb] at this
        exact this
      have hlg : lb ≠ gb := by have := (R5.below b7).b.lt; omega
      go_wp2_with fail
      go_loopw [9] (fun v9 wr => ∃ n : Nat, n ≤ 13 ∧ v9 = .int .i64 (12 - (n : Int)) ∧ IsFile wr 63 gb (seenTo rs word n) ∧ IsFile wr 63 fb rs ∧ IsFile wr 37 lb rs ∧ Rul wr ∧ Below w.heap.size w wr) (fun v9 _ => (intOf v9 + 1).toNat)
      case atStart => exact ⟨0, Nat.zero_le _, rfl, R7, F7, L7, s7, B7⟩
      case round =>
        obtain ⟨n, hn, rfl, R8, F8, L8, s8, B8⟩ := hrel
        clear R7 F7 L7 s7 B7
        by_cases hlt : n < 13
        · obtain ⟨k, hk⟩ : ∃ k : Nat, 12 - n = k := ⟨_, rfl⟩
          have hk13 : k < 13 := by omega
          have hkv : 12 - (n : Int) = (k : Int) := by omega
          have ST := seenTo_next rs word n hlt hkp
          rw [hk] at ST
          have ST := Lib.hid ST
          have cl := L8.cell k hk13
          have i0 : (0 : Int) ≤ ↑k := by omega
          have i1 : (↑k : Int) < 13 := by omega
          have PT := Lib.hid (fun v W hW hF => Put_yes gb (seenTo rs word n) k hk13 v W hW hF)
          rw [hkv]
          by_cases hm : 5 ≤ k ∧ k ≤ 9
          · rw [if_pos hm] at ST
            have j0 : (5 : Int) ≤ ↑k := by omega
            have j1 : (↑k : Int) ≤ 9 := by omega
            go_wp2_with fail
            refine (PT.out (word) _ s8 R8).mono ?_
            rintro e w9 ⟨rfl, R9, g9⟩
            have F9 := F8.far g9 (by intro e; exact hne (Option.some.inj e).symm)
            have L9 := L8.far g9 (by intro e; exact hlg (Option.some.inj e).symm)
            have s9 := s8.grown g9 (by intro e; exact hgr (Option.some.inj e))
            have B9 : Below w.heap.size w w9 := ((GrownS.ofBelow (S := fun b => w.heap.size ≤ b) B8).one g9 hgb').bel (Nat.le_refl _) (fun i hi => hi)
            go_wp2_with (go_at_call 16; refine (no8_is _ _).mono ?_; rintro e w10 ⟨rfl, rfl⟩)
            go_roundw
            case rel => exact ⟨n + 1, by omega, by first | (congr 1; omega) | (simp; omega), by rw [ST.out]; exact R9, F9, L9, s9, B9⟩
            case measure => simp [intOf]
          · rw [if_neg hm] at ST
            by_cases h5 : 5 ≤ k
            · have j0 : (5 : Int) ≤ ↑k := by omega
              have j1 : (9 : Int) < ↑k := by omega
              go_wp2_with fail
              refine (PT.out (rg rs k) _ s8 R8).mono ?_
              rintro e w9 ⟨rfl, R9, g9⟩
              have F9 := F8.far g9 (by intro e; exact hne (Option.some.inj e).symm)
              have L9 := L8.far g9 (by intro e; exact hlg (Option.some.inj e).symm)
              have s9 := s8.grown g9 (by intro e; exact hgr (Option.some.inj e))
              have B9 : Below w.heap.size w w9 := ((GrownS.ofBelow (S := fun b => w.heap.size ≤ b) B8).one g9 hgb').bel (Nat.le_refl _) (fun i hi => hi)
              go_wp2_with (go_at_call 16; refine (no8_is _ _).mono ?_; rintro e w10 ⟨rfl, rfl⟩)
              go_roundw
              case rel => exact ⟨n + 1, by omega, by first | (congr 1; omega) | (simp; omega), by rw [ST.out]; exact R9, F9, L9, s9, B9⟩
              case measure => simp [intOf]
            · have j0 : (↑k : Int) < 5 := by omega
              go_wp2_with fail
              refine (PT.out (rg rs k) _ s8 R8).mono ?_
              rintro e w9 ⟨rfl, R9, g9⟩
              have F9 := F8.far g9 (by intro e; exact hne (Option.some.inj e).symm)
              have L9 := L8.far g9 (by intro e; exact hlg (Option.some.inj e).symm)
              have s9 := s8.grown g9 (by intro e; exact hgr (Option.some.inj e))
              have B9 : Below w.heap.size w w9 := ((GrownS.ofBelow (S := fun b => w.heap.size ≤ b) B8).one g9 hgb').bel (Nat.le_refl _) (fun i hi => hi)
              go_wp2_with (go_at_call 16; refine (no8_is _ _).mono ?_; rintro e w10 ⟨rfl, rfl⟩)
              go_roundw
              case rel => exact ⟨n + 1, by omega, by first | (congr 1; omega) | (simp; omega), by rw [ST.out]; exact R9, F9, L9, s9, B9⟩
              case measure => simp [intOf]
        · obtain rfl : n = 13 := by omega
          have CX := Context_is fb rs hok wr F8
          have CG0 := fun W hW => Context_is gb (seenTo rs word 13) (seenTo_ok rs word hok) W hW
          simp only [seenTo_ctx] at CG0
          simp only [ctxA] at CX CG0
          obtain ⟨nn, hnn⟩ : ∃ nn, rg rs 3 % 8 = nn := ⟨_, rfl⟩
          obtain ⟨aa, haa⟩ : ∃ aa, rg rs 12 % 256 = aa := ⟨_, rfl⟩
          obtain ⟨bb, hbb⟩ : ∃ bb, bitB (rg rs 0) 0 = bb := ⟨_, rfl⟩
          rw [hnn, haa, hbb] at CX
          simp only [hnn, haa, hbb] at CG0
          have CX := Lib.hid CX
          have CG := Lib.hid CG0
          clear CG0
          have q0 := hok.2 0 (by omega)
          have q12 := hok.2 12 (by omega)
          have m12 : (rg rs 12).tmod 256 = aa := by rw [Int.tmod_eq_emod_of_nonneg q12.1]; exact haa
          have m0 : (rg rs 0).tmod 2 = if bb = true then 1 else 0 := by
            rw [Int.tmod_eq_emod_of_nonneg q0.1, ← hbb]
            by_cases h : rg rs 0 % 2 = 1
            · simp [bitB, h]
            · simp [bitB, h]; omega
          have n0 : 0 ≤ nn := by omega
          have n7 : nn ≤ 7 := by omega
          have a0 : 0 ≤ aa := by omega
          have a1 : aa ≤ 255 := by omega
          have w0 : wrap64 aa = aa := by unfold wrap64; omega
          have w1' : IntKind.i64.wrap aa = aa := wrapk aa (by omega) (by omega)
          have w2' : IntKind.u32.wrap aa = aa := wrap32 aa (by omega) (by omega)
          have w3' : aa % 4294967296 = aa := by omega
          clear hnn haa hbb q0 q12
          have heq := eql_ctx_self bb (bitB (rg rs 0) 28) (bitB (rg rs 0) 29) (bitB (rg rs 3) 4) (bitB (rg rs 3) 5) nn (base0 (rg rs 1) nn) (rg rs 2) (rg rs 4) (rg rs 10) (rg rs 11) aa
          rw [show (12 : Int) - ((13 : Nat) : Int) = -1 from rfl]
          go_wp2_with fail
          refine CX.out.mono ?_
          rintro e w10 ⟨rfl, b10⟩
          have R10 := (R8.below b10).alloc (.cells #[.bool bb, .bool (bitB (rg rs 0) 28), .bool (bitB (rg rs 0) 29), .int .i64 nn, .bool (bitB (rg rs 3) 4), .bool (bitB (rg rs 3) 5), .int .u64 (base0 (rg rs 1) nn), .int .u64 (rg rs 2), .int .u32 (rg rs 4), .int .u32 (rg rs 10), .int .u32 (rg rs 11), .int .i64 aa] 59)
          have L10 := (L8.below b10).alloc (.cells #[.bool bb, .bool (bitB (rg rs 0) 28), .bool (bitB (rg rs 0) 29), .int .i64 nn, .bool (bitB (rg rs 3) 4), .bool (bitB (rg rs 3) 5), .int .u64 (base0 (rg rs 1) nn), .int .u64 (rg rs 2), .int .u32 (rg rs 4), .int .u32 (rg rs 10), .int .u32 (rg rs 11), .int .i64 aa] 59)
          have B10 := (bthen B8 b10).alloc (bthen B8 b10).size (.cells #[.bool bb, .bool (bitB (rg rs 0) 28), .bool (bitB (rg rs 0) 29), .int .i64 nn, .bool (bitB (rg rs 3) 4), .bool (bitB (rg rs 3) 5), .int .u64 (base0 (rg rs 1) nn), .int .u64 (rg rs 2), .int .u32 (rg rs 4), .int .u32 (rg rs 10), .int .u32 (rg rs 11), .int .i64 aa] 59)
          have T10 : Blok (w10.alloc (.cells #[.bool bb, .bool (bitB (rg rs 0) 28), .bool (bitB (rg rs 0) 29), .int .i64 nn, .bool (bitB (rg rs 3) 4), .bool (bitB (rg rs 3) 5), .int .u64 (base0 (rg rs 1) nn), .int .u64 (rg rs 2), .int .u32 (rg rs 4), .int .u32 (rg rs 10), .int .u32 (rg rs 11), .int .i64 aa] 59)) w10.heap.size 59 (#[.bool bb, .bool (bitB (rg rs 0) 28), .bool (bitB (rg rs 0) 29), .int .i64 nn, .bool (bitB (rg rs 3) 4), .bool (bitB (rg rs 3) 5), .int .u64 (base0 (rg rs 1) nn), .int .u64 (rg rs 2), .int .u32 (rg rs 4), .int .u32 (rg rs 10), .int .u32 (rg rs 11), .int .i64 aa] : Array Value).toList := Blok.new w10 _ _
          (have d0 : ∀ w', GrownS (w10.alloc (.cells #[.bool bb, .bool (bitB (rg rs 0) 28), .bool (bitB (rg rs 0) 29), .int .i64 nn, .bool (bitB (rg rs 3) 4), .bool (bitB (rg rs 3) 5), .int .u64 (base0 (rg rs 1) nn), .int .u64 (rg rs 2), .int .u32 (rg rs 4), .int .u32 (rg rs 10), .int .u32 (rg rs 11), .int .i64 aa] 59)) w' (fun _ => False) → w'.cell? ⟨w10.heap.size, 0, none⟩ = some (.bool bb) := fun w' g => ((T10).gs g id).cell 0; have d1 : ∀ w', GrownS (w10.alloc (.cells #[.bool bb, .bool (bitB (rg rs 0) 28), .bool (bitB (rg rs 0) 29), .int .i64 nn, .bool (bitB (rg rs 3) 4), .bool (bitB (rg rs 3) 5), .int .u64 (base0 (rg rs 1) nn), .int .u64 (rg rs 2), .int .u32 (rg rs 4), .int .u32 (rg rs 10), .int .u32 (rg rs 11), .int .i64 aa] 59)) w' (fun _ => False) → w'.cell? ⟨w10.heap.size, 1, none⟩ = some (.bool (bitB (rg rs 0) 28)) := fun w' g => ((T10).gs g id).cell 1; have d2 : ∀ w', GrownS (w10.alloc (.cells #[.bool bb, .bool (bitB (rg rs 0) 28), .bool (bitB (rg rs 0) 29), .int .i64 nn, .bool (bitB (rg rs 3) 4), .bool (bitB (rg rs 3) 5), .int .u64 (base0 (rg rs 1) nn), .int .u64 (rg rs 2), .int .u32 (rg rs 4), .int .u32 (rg rs 10), .int .u32 (rg rs 11), .int .i64 aa] 59)) w' (fun _ => False) → w'.cell? ⟨w10.heap.size, 2, none⟩ = some (.bool (bitB (rg rs 0) 29)) := fun w' g => ((T10).gs g id).cell 2; have d3 : ∀ w', GrownS (w10.alloc (.cells #[.bool bb, .bool (bitB (rg rs 0) 28), .bool (bitB (rg rs 0) 29), .int .i64 nn, .bool (bitB (rg rs 3) 4), .bool (bitB (rg rs 3) 5), .int .u64 (base0 (rg rs 1) nn), .int .u64 (rg rs 2), .int .u32 (rg rs 4), .int .u32 (rg rs 10), .int .u32 (rg rs 11), .int .i64 aa] 59)) w' (fun _ => False) → w'.cell? ⟨w10.heap.size, 3, none⟩ = some (.int .i64 nn) := fun w' g => ((T10).gs g id).cell 3; have d4 : ∀ w', GrownS (w10.alloc (.cells #[.bool bb, .bool (bitB (rg rs 0) 28), .bool (bitB (rg rs 0) 29), .int .i64 nn, .bool (bitB (rg rs 3) 4), .bool (bitB (rg rs 3) 5), .int .u64 (base0 (rg rs 1) nn), .int .u64 (rg rs 2), .int .u32 (rg rs 4), .int .u32 (rg rs 10), .int .u32 (rg rs 11), .int .i64 aa] 59)) w' (fun _ => False) → w'.cell? ⟨w10.heap.size, 4, none⟩ = some (.bool (bitB (rg rs 3) 4)) := fun w' g => ((T10).gs g id).cell 4; have d5 : ∀ w', GrownS (w10.alloc (.cells #[.bool bb, .bool (bitB (rg rs 0) 28), .bool (bitB (rg rs 0) 29), .int .i64 nn, .bool (bitB (rg rs 3) 4), .bool (bitB (rg rs 3) 5), .int .u64 (base0 (rg rs 1) nn), .int .u64 (rg rs 2), .int .u32 (rg rs 4), .int .u32 (rg rs 10), .int .u32 (rg rs 11), .int .i64 aa] 59)) w' (fun _ => False) → w'.cell? ⟨w10.heap.size, 5, none⟩ = some (.bool (bitB (rg rs 3) 5)) := fun w' g => ((T10).gs g id).cell 5; have d6 : ∀ w', GrownS (w10.alloc (.cells #[.bool bb, .bool (bitB (rg rs 0) 28), .bool (bitB (rg rs 0) 29), .int .i64 nn, .bool (bitB (rg rs 3) 4), .bool (bitB (rg rs 3) 5), .int .u64 (base0 (rg rs 1) nn), .int .u64 (rg rs 2), .int .u32 (rg rs 4), .int .u32 (rg rs 10), .int .u32 (rg rs 11), .int .i64 aa] 59)) w' (fun _ => False) → w'.cell? ⟨w10.heap.size, 6, none⟩ = some (.int .u64 (base0 (rg rs 1) nn)) := fun w' g => ((T10).gs g id).cell 6; have d7 : ∀ w', GrownS (w10.alloc (.cells #[.bool bb, .bool (bitB (rg rs 0) 28), .bool (bitB (rg rs 0) 29), .int .i64 nn, .bool (bitB (rg rs 3) 4), .bool (bitB (rg rs 3) 5), .int .u64 (base0 (rg rs 1) nn), .int .u64 (rg rs 2), .int .u32 (rg rs 4), .int .u32 (rg rs 10), .int .u32 (rg rs 11), .int .i64 aa] 59)) w' (fun _ => False) → w'.cell? ⟨w10.heap.size, 7, none⟩ = some (.int .u64 (rg rs 2)) := fun w' g => ((T10).gs g id).cell 7; have d8 : ∀ w', GrownS (w10.alloc (.cells #[.bool bb, .bool (bitB (rg rs 0) 28), .bool (bitB (rg rs 0) 29), .int .i64 nn, .bool (bitB (rg rs 3) 4), .bool (bitB (rg rs 3) 5), .int .u64 (base0 (rg rs 1) nn), .int .u64 (rg rs 2), .int .u32 (rg rs 4), .int .u32 (rg rs 10), .int .u32 (rg rs 11), .int .i64 aa] 59)) w' (fun _ => False) → w'.cell? ⟨w10.heap.size, 8, none⟩ = some (.int .u32 (rg rs 4)) := fun w' g => ((T10).gs g id).cell 8; have d9 : ∀ w', GrownS (w10.alloc (.cells #[.bool bb, .bool (bitB (rg rs 0) 28), .bool (bitB (rg rs 0) 29), .int .i64 nn, .bool (bitB (rg rs 3) 4), .bool (bitB (rg rs 3) 5), .int .u64 (base0 (rg rs 1) nn), .int .u64 (rg rs 2), .int .u32 (rg rs 4), .int .u32 (rg rs 10), .int .u32 (rg rs 11), .int .i64 aa] 59)) w' (fun _ => False) → w'.cell? ⟨w10.heap.size, 9, none⟩ = some (.int .u32 (rg rs 10)) := fun w' g => ((T10).gs g id).cell 9; have d10 : ∀ w', GrownS (w10.alloc (.cells #[.bool bb, .bool (bitB (rg rs 0) 28), .bool (bitB (rg rs 0) 29), .int .i64 nn, .bool (bitB (rg rs 3) 4), .bool (bitB (rg rs 3) 5), .int .u64 (base0 (rg rs 1) nn), .int .u64 (rg rs 2), .int .u32 (rg rs 4), .int .u32 (rg rs 10), .int .u32 (rg rs 11), .int .i64 aa] 59)) w' (fun _ => False) → w'.cell? ⟨w10.heap.size, 10, none⟩ = some (.int .u32 (rg rs 11)) := fun w' g => ((T10).gs g id).cell 10; have d11 : ∀ w', GrownS (w10.alloc (.cells #[.bool bb, .bool (bitB (rg rs 0) 28), .bool (bitB (rg rs 0) 29), .int .i64 nn, .bool (bitB (rg rs 3) 4), .bool (bitB (rg rs 3) 5), .int .u64 (base0 (rg rs 1) nn), .int .u64 (rg rs 2), .int .u32 (rg rs 4), .int .u32 (rg rs 10), .int .u32 (rg rs 11), .int .i64 aa] 59)) w' (fun _ => False) → w'.cell? ⟨w10.heap.size, 11, none⟩ = some (.int .i64 aa) := fun w' g => ((T10).gs g id).cell 11)
          have l0 : ∀ w', GrownS (w10.alloc (.cells #[.bool bb, .bool (bitB (rg rs 0) 28), .bool (bitB (rg rs 0) 29), .int .i64 nn, .bool (bitB (rg rs 3) 4), .bool (bitB (rg rs 3) 5), .int .u64 (base0 (rg rs 1) nn), .int .u64 (rg rs 2), .int .u32 (rg rs 4), .int .u32 (rg rs 10), .int .u32 (rg rs 11), .int .i64 aa] 59)) w' (fun _ => False) → w'.cell? ⟨lb, 0, none⟩ = some (.int .u32 (rg rs 0)) := fun w' g => (IsFile.mk (L10.b.gs g id) L10.len).cell 0 (by omega)
          have l4 : ∀ w', GrownS (w10.alloc (.cells #[.bool bb, .bool (bitB (rg rs 0) 28), .bool (bitB (rg rs 0) 29), .int .i64 nn, .bool (bitB (rg rs 3) 4), .bool (bitB (rg rs 3) 5), .int .u64 (base0 (rg rs 1) nn), .int .u64 (rg rs 2), .int .u32 (rg rs 4), .int .u32 (rg rs 10), .int .u32 (rg rs 11), .int .i64 aa] 59)) w' (fun _ => False) → w'.cell? ⟨lb, 4, none⟩ = some (.int .u32 (rg rs 4)) := fun w' g => (IsFile.mk (L10.b.gs g id) L10.len).cell 4 (by omega)
          have l12 : ∀ w', GrownS (w10.alloc (.cells #[.bool bb, .bool (bitB (rg rs 0) 28), .bool (bitB (rg rs 0) 29), .int .i64 nn, .bool (bitB (rg rs 3) 4), .bool (bitB (rg rs 3) 5), .int .u64 (base0 (rg rs 1) nn), .int .u64 (rg rs 2), .int .u32 (rg rs 4), .int .u32 (rg rs 10), .int .u32 (rg rs 11), .int .i64 aa] 59)) w' (fun _ => False) → w'.cell? ⟨lb, 12, none⟩ = some (.int .u32 (rg rs 12)) := fun w' g => (IsFile.mk (L10.b.gs g id) L10.len).cell 12 (by omega)
          go_wp2_with fail
          cases bb
          · replace m0 : (rg rs 0).tmod 2 = 0 := m0
            go_region_held3 (fun w' => GrownS (w10.alloc (.cells #[.bool false, .bool (bitB (rg rs 0) 28), .bool (bitB (rg rs 0) 29), .int .i64 nn, .bool (bitB (rg rs 3) 4), .bool (bitB (rg rs 3) 5), .int .u64 (base0 (rg rs 1) nn), .int .u64 (rg rs 2), .int .u32 (rg rs 4), .int .u32 (rg rs 10), .int .u32 (rg rs 11), .int .i64 aa] 59)) w' (fun _ => False))
              (first | with_reducible assumption | exact GrownS.drew _ _)
              (first | (go_at_call 22; refine (CG.out _ R10.drew).mono ?_; rintro e w11 ⟨rfl, b11⟩; have g11 : GrownS (w10.alloc (.cells #[.bool false, .bool (bitB (rg rs 0) 28), .bool (bitB (rg rs 0) 29), .int .i64 nn, .bool (bitB (rg rs 3) 4), .bool (bitB (rg rs 3) 5), .int .u64 (base0 (rg rs 1) nn), .int .u64 (rg rs 2), .int .u32 (rg rs 4), .int .u32 (rg rs 10), .int .u32 (rg rs 11), .int .i64 aa] 59)) w11 (fun _ => False) := (GrownS.drew _ _).below b11))
            all_goals
              go_wp2
              go_ret
              exact ⟨rfl, bthen B10 ((bdrew (Below.refl _ _)).trans (b11.mono (by simp)))⟩
          · replace m0 : (rg rs 0).tmod 2 = 1 := m0
            go_region_held3 (fun w' => GrownS (w10.alloc (.cells #[.bool true, .bool (bitB (rg rs 0) 28), .bool (bitB (rg rs 0) 29), .int .i64 nn, .bool (bitB (rg rs 3) 4), .bool (bitB (rg rs 3) 5), .int .u64 (base0 (rg rs 1) nn), .int .u64 (rg rs 2), .int .u32 (rg rs 4), .int .u32 (rg rs 10), .int .u32 (rg rs 11), .int .i64 aa] 59)) w' (fun _ => False))
              (first | with_reducible assumption | exact GrownS.drew _ _)
              (first | (go_at_call 22; refine (CG.out _ R10.drew).mono ?_; rintro e w11 ⟨rfl, b11⟩; have g11 : GrownS (w10.alloc (.cells #[.bool true, .bool (bitB (rg rs 0) 28), .bool (bitB (rg rs 0) 29), .int .i64 nn, .bool (bitB (rg rs 3) 4), .bool (bitB (rg rs 3) 5), .int .u64 (base0 (rg rs 1) nn), .int .u64 (rg rs 2), .int .u32 (rg rs 4), .int .u32 (rg rs 10), .int .u32 (rg rs 11), .int .i64 aa] 59)) w11 (fun _ => False) := (GrownS.drew _ _).below b11))
            all_goals
              go_wp2
              go_ret
              exact ⟨rfl, bthen B10 ((bdrew (Below.refl _ _)).trans (b11.mono (by simp)))⟩
end Go.Proofs.YtakihcdolpocjaaDoor
