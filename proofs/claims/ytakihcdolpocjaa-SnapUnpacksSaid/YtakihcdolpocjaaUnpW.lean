/- The walk of the law SnapUnpacks. -/
import Derived.Test.YtakihcdolpocjaaUnpR
namespace Go.Proofs.Ytakihcdolpocjaa.Unp
open Go.RowKit Go.Proofs.Ytakihcdolpocjaa.PSnapUnpacks Go.Proofs.YtakihcdolpocjaaW.PrintWords Go.Proofs.YtakihcdolpocjaaW.PrintLast

theorem own_cap {w : World} {base n c : Nat} {e : TypeId} {s : Nat} {A : Option Addr} {xs : List Value} (h : w.ownsRow base e s (.slice A n c) n xs) : n ≤ c := by
  rcases h.2 with ⟨h', h0⟩ | ⟨g, cap, cur, h', _, _, hc, _⟩
  · omega
  · injection h' with _ _ h3; omega
theorem own_new (w : World) : (w.alloc (.cells #[] 5)).ownsRow w.heap.size 5 1 (.slice (some ⟨w.heap.size, 0, none⟩) 0 0) ([] : List Int).length (nums .u8 []) :=
  ⟨rfl, .inr ⟨w.heap.size, 0, #[], rfl, Nat.le_refl _, heap_alloc_new w _, Nat.le_refl _, Nat.zero_le _, rfl, rfl⟩⟩
theorem below_step' {w w1 w2 : World} (h : Below w.heap.size w w1) (k : Below w1.heap.size w1 w2) : Below w.heap.size w w2 := below_step h k
theorem str_same (s : List Int) (w : World) : (binOp .neq 9 (.string (strOfNums s)) (.string (strOfNums s))).run Try.prog w = .ok (.bool false) w := by
  simp [go_sem]
theorem str_eql (s : List Int) (w : World) : (binOp .eql 9 (.string (strOfNums s)) (.string (strOfNums s))).run Try.prog w = .ok (.bool true) w := by
  simp [go_sem]
def URel3 (N : Nat) (w3 : World) (x : Value) (n : Nat) (v10 : Value) (wr : World) : Prop :=
  ∃ (i : Nat) (zs : List Int), i ≤ n ∧ v10 = .int .i64 i ∧ Hid (wr.ownsRow N 5 1 x n (nums .u8 zs)) ∧ w3.grownBy wr x.ownBlock
theorem grown_then {w w1 w2 : World} {row : Option Nat} (h : w.grownBy w1 row) (k : w1.grownBy w2 row) : w.grownBy w2 row :=
  ⟨k.os.trans h.os, k.tape.trans h.tape, k.output.trans h.output, Nat.le_trans h.size k.size, fun i hi hne => (k.block i (Nat.lt_of_lt_of_le hi h.size) hne).trans (h.block i hi hne)⟩
set_option maxHeartbeats 6400000 in
set_option maxRecDepth 100000 in
theorem unpacks_walk (A0 : Option Addr) (c0 : Nat) (l0 : List Int) (n : Int) (w : World) (hr0 : ReadsInt w .u8 A0 l0.length l0) (hc0 : l0.length ≤ c0) (hw0 : ∀ x ∈ l0, 0 ≤ x ∧ x ≤ 255) (hL : l0.length ≤ 140737488351232) :
    Calls Try.prog 5 #[.slice A0 l0.length c0, .int .i64 n] w fun e w' => e = .returned (.bool true) ∧ Below w.heap.size w w' := by
  have RF := Lib.hid (ref_is l0 n hL hw0)
  have UN := Lib.hid (fun A c W hr hc => unpack_any A c l0 n W hr hc hw0)
  have RN := Lib.hid (fun W hr => atlasref29_Unpack.calls (140 * l0.length + 200) A0 c0 l0 n (unpQ l0 n).1 (unpQ l0 n).2 W (Kd.C_of_reads (d := (0 : Int)) (h1 := fun _ => rfl) hr) hc0 RF.out)
  obtain ⟨q, q2⟩ : ∃ q : List Int × Int, unpQ l0 n = q := ⟨_, rfl⟩
  rw [q2] at UN RN
  obtain ⟨q1, qe⟩ := q
  have HQ := Lib.hid q2
  clear q2
  dsimp only at RN
  obtain ⟨k, hk⟩ : ∃ k, l0.length = k := ⟨_, rfl⟩
  have HK := Lib.hid hk
  have R0 := Lib.hid hr0
  rw [hk] at R0 UN RN hL hc0 ⊢
  clear hk hr0 hw0 RF
  go_enter Try.func5, Try.ntmps5
  go_wp2_with (refine print_append_row (w0 := w) w.heap.size rfl (.tmp 12) (.tmp 13) 22 5 .u8 1 rfl Try.underlying22 u8_info (by omega) _ [] l0 A0 k c0 rfl rfl (own_new w) ((R0.out.below (w1 := w.alloc (.cells #[] 5)) ((Below.refl _ _).alloc (Nat.le_refl _) _))) ((Below.refl _ _).alloc (Nat.le_refl _) _) (by simp) (by simp; omega) ?_; intro v1 w1 own1 B1 gr1 at1; rw [List.nil_append, HK.out] at own1; obtain ⟨Am, cm, hv, rdm⟩ := own_reads own1; subst hv)
  have hcm := own_cap own1
  have OM := Lib.hid own1
  have RM := Lib.hid rdm
  clear own1 rdm gr1 at1
  refine (UN.out Am cm w1 RM.out hcm).mono ?_
  rintro e w2 ⟨v2, rfl, own2, B2⟩
  obtain ⟨Ax, cx, hv, rdx⟩ := own_reads own2
  subst hv
  have hcx := own_cap own2
  have O2 := Lib.hid own2
  clear own2 rdx
  have B12 := below_step B1 B2
  go_wp2_with fail
  refine (RN.out w2 (R0.out.below B12)).mono ?_
  rintro e w3 ⟨v3, rfl, own3, B3⟩
  have own3 := Kd.own_of_R own3
  obtain ⟨Ay, cy, hv, rdy⟩ := own_reads own3
  subst hv
  have O3 := Lib.hid own3
  clear own3 rdy
  have B13 := below_step B12 B3
  have cX := own_string (P := Try.prog) Try.underlying22 Try.underlying5 Try.underlying9 (pw_own_below O2.out B3)
  have cY := own_string (P := Try.prog) Try.underlying22 Try.underlying5 Try.underlying9 O3.out
  have cM := own_string (P := Try.prog) Try.underlying22 Try.underlying5 Try.underlying9 (pw_own_below (pw_own_below OM.out B2) B3)
  have cB := Kd.C_string (P := Try.prog) (A := A0) (c := c0) Try.underlying22 Try.underlying5 Try.underlying9 (Kd.C_of_reads (d := (0 : Int)) (h1 := fun _ => rfl) (R0.out.below B13))
  have s1 := str_same q1
  have s2 := str_same l0
  have hg2 : ∀ b, (Value.slice Ax q1.length cx).ownBlock = some b → w1.heap.size ≤ b ∧ b < w2.heap.size := fun b hb => ⟨own_base O2.out b hb, own_lt O2.out b hb⟩
  have HG2 := Lib.hid hg2
  clear hg2
  have hnl : q1.length ≤ 9223372036854775807 := by
    have := (own_reads O2.out)
    obtain ⟨A, c, _, r⟩ := this
    exact r.2.1
  have HNL := Lib.hid hnl
  clear hnl
  go_wp2_with fail
  go_loopw [10] (fun v10 wr => URel3 w1.heap.size w3 (.slice Ax q1.length cx) q1.length v10 wr) (fun v10 _ => q1.length - (intOf v10).toNat)
  case atStart => exact ⟨0, q1, Nat.zero_le _, rfl, Lib.hid (pw_own_below O2.out B3), World.grownBy.refl w3 _⟩
  case round =>
    clear cX cY cM cB s1 s2
    obtain ⟨i, zs, hi, rfl, OX, G⟩ := hrel
    by_cases hlt : i < q1.length
    · obtain ⟨g, cap, hv, _, _⟩ := OX.out.form (by omega)
      simp only [Value.slice.injEq] at hv
      obtain ⟨rfl, _, rfl⟩ := hv
      obtain ⟨hc, hf⟩ := own_at OX.out (i : Int) (by omega) (by omega)
      obtain ⟨hs1, hs2⟩ := own_store OX.out (i : Int) 90
      simp only [Int.toNat_natCast] at hc hf hs1 hs2
      have HS1 := Lib.hid hs1
      have HS2 := Lib.hid hs2
      have i0 : (0 : Int) ≤ ↑i := by omega
      have i1 : (↑i : Int) < ↑q1.length := by omega
      have i2 : q1.length ≤ 9223372036854775807 := HNL.out
      clear hs1 hs2
      go_wp2_with fail
      go_roundw
      case rel => exact ⟨i + 1, _, by omega, by go_num, HS1, grown_then G HS2.out⟩
      case measure => simp [intOf]; omega
    · have hne : ∀ b, (Value.slice Am k cm).ownBlock = some b → (Value.slice Ax q1.length cx).ownBlock ≠ some b := fun b hb e => by
        have h1 := own_lt OM.out b hb
        have h2 := (HG2.out b e).1
        omega
      have OMr : Hid (wr.ownsRow w.heap.size 5 1 (.slice Am k cm) k (nums .u8 l0)) := Lib.hid (own_other (pw_own_below (pw_own_below OM.out B2) B3) G (by
        cases h : (Value.slice Am k cm).ownBlock with
        | none => exact .inl rfl
        | some b => exact .inr (fun e => hne b h e.symm)))
      have OYr : Hid (wr.ownsRow w2.heap.size 5 1 (.slice Ay q1.length cy) q1.length (nums .u8 q1)) := Lib.hid (own_other O3.out G (by
        cases h : (Value.slice Ay q1.length cy).ownBlock with
        | none => exact .inl rfl
        | some b => exact .inr (fun e => by have h1 := own_base O3.out b h; have h2 := (HG2.out b e.symm).2; omega)))
      have Br : Below w.heap.size w wr := B13.trans ⟨G.os, G.tape, G.output, G.size, fun i hi => G.block i (Nat.lt_of_lt_of_le hi B13.size) (fun e => by have h2 := (HG2.out i e.symm).1; have := B1.size; omega)⟩
      obtain ⟨Am', cm', hv, rdm⟩ := own_reads OMr.out
      simp only [Value.slice.injEq] at hv
      obtain ⟨rfl, _, rfl⟩ := hv
      have RMr := Lib.hid rdm
      clear rdm hne OX G
      go_wp2_with fail
      refine (UN.out Am cm wr RMr.out hcm).mono ?_
      rintro e w4 ⟨v4, rfl, own4, B4⟩
      obtain ⟨Az, cz, hv, rdz⟩ := own_reads own4
      subst hv
      have cZ := own_string (P := Try.prog) Try.underlying22 Try.underlying5 Try.underlying9 own4
      have cY := own_string (P := Try.prog) Try.underlying22 Try.underlying5 Try.underlying9 (pw_own_below OYr.out B4)
      have cM := own_string (P := Try.prog) Try.underlying22 Try.underlying5 Try.underlying9 (pw_own_below OMr.out B4)
      have cB := Kd.C_string (P := Try.prog) (A := A0) (c := c0) Try.underlying22 Try.underlying5 Try.underlying9 (Kd.C_of_reads (d := (0 : Int)) (h1 := fun _ => rfl) (R0.out.below (below_step Br B4)))
      have s1 := str_eql q1
      have s2 := str_eql l0
      have Bf := below_step Br B4
      clear own4 rdz
      go_wp2_with fail
      go_ret
      exact ⟨by simp, Bf⟩
end Go.Proofs.Ytakihcdolpocjaa.Unp
