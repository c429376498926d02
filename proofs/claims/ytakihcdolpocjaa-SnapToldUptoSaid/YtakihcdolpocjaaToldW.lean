/- The walk of the law SnapTold. -/
import Derived.Test.YtakihcdolpocjaaToldP
import Derived.Test.YtakihcdolpocjaaPackProgA
namespace Go.Proofs.Ytakihcdolpocjaa.Unp
open Go.RowKit Go.Proofs.Ytakihcdolpocjaa.PSnapPacks Go.Proofs.Ytakihcdolpocjaa.PackLaw Go.Proofs.YtakihcdolpocjaaW.PrintWords Go.Proofs.YtakihcdolpocjaaW.PrintLast

theorem own_cap {w : World} {base n c : Nat} {e : TypeId} {s : Nat} {A : Option Addr} {xs : List Value} (h : w.ownsRow base e s (.slice A n c) n xs) : n ≤ c := by
  rcases h.2 with ⟨h', h0⟩ | ⟨g, cap, cur, h', _, _, hc, _⟩
  · omega
  · injection h' with _ _ h3; omega
theorem own_new (w : World) : (w.alloc (.cells #[] 5)).ownsRow w.heap.size 5 1 (.slice (some ⟨w.heap.size, 0, none⟩) 0 0) ([] : List Int).length (nums .u8 []) :=
  ⟨rfl, .inr ⟨w.heap.size, 0, #[], rfl, Nat.le_refl _, heap_alloc_new w _, Nat.le_refl _, Nat.zero_le _, rfl, rfl⟩⟩
theorem str_same (s : List Int) (w : World) : (binOp .neq 9 (.string (strOfNums s)) (.string (strOfNums s))).run Try.prog w = .ok (.bool false) w := by
  simp [go_sem]
theorem str_eql (s : List Int) (w : World) : (binOp .eql 9 (.string (strOfNums s)) (.string (strOfNums s))).run Try.prog w = .ok (.bool true) w := by
  simp [go_sem]
set_option maxHeartbeats 6400000 in
set_option maxRecDepth 100000 in
theorem told_walk (A0 : Option Addr) (c0 : Nat) (l0 : List Int) (n : Int) (w : World) (hr0 : ReadsInt w .u8 A0 l0.length l0) (_hc0 : l0.length ≤ c0) (hw0 : ∀ x ∈ l0, 0 ≤ x ∧ x ≤ 255) (hL : l0.length ≤ 1048576) :
    Calls Try.prog 7 #[.slice A0 l0.length c0, .int .i64 n] w fun e w' => e = .returned (.bool true) ∧ Below w.heap.size w w' := by
  have PB := packL_bytes l0.length l0 hw0
  have T1 := told_is l0 l0.length hL
  have T2 := told_is l0 n hL
  rw [if_neg (by omega), if_pos rfl] at T1
  have PL := (packL_len l0.length l0 (Nat.le_refl _)).1
  have PK := fun A c W hs => snap_Pack.calls (2 * l0.length + 400) (fun k_ => some k_ = (.slice A l0.length c : Value).ownBlock) A c l0 _ W hs (PSnapPacksProg.Pack_is l0 hL _ (Nat.le_refl _))
  obtain ⟨p, hp⟩ : ∃ p, packL l0.length l0 = p := ⟨_, rfl⟩
  rw [hp] at PB T1 T2 PL PK
  obtain ⟨k, hk⟩ : ∃ k, l0.length = k := ⟨_, rfl⟩
  have HK := Lib.hid hk
  have R0 := Lib.hid hr0
  rw [hk] at R0 T1 T2 PL PK hL ⊢
  obtain ⟨z, hz⟩ : ∃ z, p.length = z := ⟨_, rfl⟩
  rw [hz] at PL
  have HZ := Lib.hid hz
  have U1 := fun A c W hr hc => unpack_any A c p k W hr hc PB
  have U2 := fun A c W hr hc => unpack_any A c p n W hr hc PB
  rw [T1, hz] at U1
  rw [hz] at U2
  obtain ⟨q, hq⟩ : ∃ q : List Int × Int, unpQ p n = q := ⟨_, rfl⟩
  rw [hq] at U2 T2
  obtain ⟨q1, qe⟩ := q
  have PKH := Lib.hid PK
  have U1H := Lib.hid U1
  have U2H := Lib.hid U2
  have T2H := Lib.hid T2
  clear hk hr0 hw0 PB T1 hp hz hq PK U1 U2 T2
  have pl1 : (z : Int) ≤ k + k / 128 + 1 := by omega
  have hz2 : z ≤ 1048576 + 8192 + 1 := by omega
  go_enter Try.func7, Try.ntmps7
  go_wp2_with (refine print_append_row (w0 := w) w.heap.size rfl (.tmp 10) (.tmp 11) 22 5 .u8 1 rfl Try.underlying22 u8_info (by omega) _ [] l0 A0 k c0 rfl rfl (own_new w) ((R0.out.below (w1 := w.alloc (.cells #[] 5)) ((Below.refl _ _).alloc (Nat.le_refl _) _))) ((Below.refl _ _).alloc (Nat.le_refl _) _) (by simp) (by simp; omega) ?_; intro v1 w1 own1 B1 gr1 at1; rw [List.nil_append, HK.out] at own1; obtain ⟨Am, cm, hv, rdm⟩ := own_reads own1; subst hv)
  have hR : Kd.R (Kd.int .u8) 5 w1 w.heap.size (fun _ => True) (.slice Am k cm) l0 := Kd.R_of_own (by rw [HK.out]; exact own1) (fun _ _ => trivial)
  clear own1 rdm gr1 at1
  refine (PKH.out Am cm w1 (Kd.R_V (Kd.R_tight rfl hR))).mono ?_
  rintro e w2 ⟨vp, rfl, ownp, B2⟩
  have ownp := Kd.own_of_R ownp
  rw [HZ.out] at ownp
  obtain ⟨Ap, cp, hv, rdp⟩ := own_reads ownp
  subst hv
  have RP := Lib.hid rdp
  have B12 := below_step B1 B2
  clear ownp rdp hR
  have hb1 : decide ((k : Int) > 1048576) = false := by simp; omega
  have hk2 : ¬ (k : Int) > 1048576 := by omega
  go_wp2_with (refine print_append_row (w0 := w2) w2.heap.size rfl (.tmp 18) (.tmp 19) 22 5 .u8 1 rfl Try.underlying22 u8_info (by omega) _ [] p Ap z cp rfl rfl (own_new w2) ((RP.out.below (w1 := w2.alloc (.cells #[] 5)) ((Below.refl _ _).alloc (Nat.le_refl _) _))) ((Below.refl _ _).alloc (Nat.le_refl _) _) (by simp) (by simp; omega) ?_; intro v3 w3 own3 B3 gr3 at3; rw [List.nil_append, HZ.out] at own3; obtain ⟨A3, c3, hv, rd3⟩ := own_reads own3; subst hv)
  have hc3 := own_cap own3
  have B13 := below_step B12 B3
  refine (U1H.out A3 c3 w3 rd3 hc3).mono ?_
  rintro e w4 ⟨v4, rfl, own4, B4⟩
  dsimp only at own4
  rw [HK.out] at own4
  obtain ⟨A4, c4, hv, rd4⟩ := own_reads own4
  subst hv
  have B14 := below_step B13 B4
  have cX := own_string (P := Try.prog) Try.underlying22 Try.underlying5 Try.underlying9 own4
  have cB := Kd.C_string (P := Try.prog) (A := A0) (c := c0) Try.underlying22 Try.underlying5 Try.underlying9 (Kd.C_of_reads (d := (0 : Int)) (h1 := fun _ => rfl) (R0.out.below B14))
  have s1 := str_same l0
  have RP4 := Lib.hid ((RP.out.below B3).below B4)
  clear own3 rd3 gr3 at3 own4 rd4 hc3 B3 B4
  have RA4 := Lib.hid (RP4.out.below (w1 := w4.alloc (.cells #[] 5)) ((Below.refl _ _).alloc (Nat.le_refl _) _))
  have BA4 : Below w4.heap.size w4 (w4.alloc (.cells #[] 5)) := (Below.refl _ _).alloc (Nat.le_refl _) _
  go_wp2_with (refine print_append_row (w0 := w4) w4.heap.size rfl (.tmp 48) (.tmp 49) 22 5 .u8 1 rfl Try.underlying22 u8_info (by omega) _ [] p Ap z cp rfl rfl (own_new w4) RA4.out BA4 (by simp) (by simp; omega) ?_; intro v5 w5 own5 B5 gr5 at5; rw [List.nil_append, HZ.out] at own5; obtain ⟨A5, c5, hv, rd5⟩ := own_reads own5; subst hv)
  have hc5 := own_cap own5
  have B15 := below_step B14 B5
  refine (U2H.out A5 c5 w5 rd5 hc5).mono ?_
  rintro e w6 ⟨v6, rfl, own6, B6⟩
  dsimp only at own6
  have Bf := below_step B15 B6
  have T2 := T2H.out
  clear own5 rd5 gr5 at5 hc5 cX cB s1 RA4 BA4 RP4 B5 B6 B15 B14 B13 B12
  by_cases h1 : n < 0 ∨ 1048576 < n
  · rw [if_pos h1] at T2
    obtain ⟨rfl, rfl⟩ := Prod.mk.inj T2
    obtain ⟨A6, c6, hv, _⟩ := own_reads own6
    subst hv
    have hb9 : (n == (k : Int)) = false := by simp; omega
    clear h1 T2 own6
    go_wp2_with fail
    go_ret
    exact ⟨by simp, Bf⟩
  · rw [if_neg h1] at T2
    by_cases h2 : n = (k : Int)
    · rw [if_pos h2] at T2
      obtain ⟨rfl, rfl⟩ := Prod.mk.inj T2
      subst h2
      rw [HK.out] at own6
      obtain ⟨A6, c6, hv, _⟩ := own_reads own6
      subst hv
      have cX := own_string (P := Try.prog) Try.underlying22 Try.underlying5 Try.underlying9 own6
      have cB := Kd.C_string (P := Try.prog) (A := A0) (c := c0) Try.underlying22 Try.underlying5 Try.underlying9 (Kd.C_of_reads (d := (0 : Int)) (h1 := fun _ => rfl) (R0.out.below Bf))
      have s1 := str_eql q1
      clear h1 T2 own6
      go_wp2_with fail
      go_ret
      exact ⟨by simp, Bf⟩
    · rw [if_neg h2] at T2
      obtain ⟨rfl, rfl⟩ := Prod.mk.inj T2
      obtain ⟨A6, c6, hv, _⟩ := own_reads own6
      subst hv
      have hb9 : (n == (k : Int)) = false := by simp; omega
      clear h1 T2 own6
      go_wp2_with fail
      go_ret
      exact ⟨by simp, Bf⟩
end Go.Proofs.Ytakihcdolpocjaa.Unp
