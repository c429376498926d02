/- Layer 29: what the program's Unpack answers and makes: the walk. -/
import Derived.Test.YtakihcdolpocjaaPSnapUnpacksx1
import Derived.Lib.Hide
import Derived.OwnWalk
namespace Go.Proofs.Ytakihcdolpocjaa.Unp
open Go.RowKit Go.Proofs.YtakihcdolpocjaaW.PrintWords Go.Proofs.YtakihcdolpocjaaW.PrintLast

/-- pieces are unpacked behind out, by at most k of them, to n bytes in all; none: they are no pieces of n bytes -/
def upk : Nat → Nat → List Int → List Int → Option (List Int)
  | _, n, [], out => if out.length = n then some out else none
  | 0, _, _ :: _, _ => none
  | k + 1, n, c :: t, out =>
    if c < 128 then (if c.toNat + 1 ≤ t.length then (if n < (out ++ t.take (c.toNat + 1)).length then none else upk k n (t.drop (c.toNat + 1)) (out ++ t.take (c.toNat + 1))) else none)
    else if 128 < c then (match t with | [] => none | a :: t' => if n < (out ++ List.replicate (257 - c).toNat a).length then none else upk k n t' (out ++ List.replicate (257 - c).toNat a))
    else none
def unpQ (l : List Int) (n : Int) : List Int × Int := if n < 0 ∨ 1048576 < n then ([], 1) else match upk l.length n.toNat l [] with | some r => (r, 0) | none => ([], 291)
/-- what is answered, where the whole comes to r -/
def ansQ (r : Option (List Int)) : List Int × Int := match r with | some r => (r, 0) | none => ([], 291)
theorem u8_info : (Try.prog.info? 5).map (fun i => (i.zero, i.size, i.bytes)) = some (some (.int .u8 0), 1, 1) := by kernel_rfl
/-- the answer of Unpack -/
def UPost (N : Nat) (w : World) (q : List Int × Int) (e : Ending) (w' : World) : Prop :=
  ∃ v, e = .returned (.tuple #[v, .int .i64 q.2]) ∧ w'.ownsRow N 5 1 v q.1.length (nums .u8 q.1) ∧ Below N w w'
theorem UPost.no {N : Nat} {w w' : World} {n : Int} (b : Below N w w') : UPost N w ([], n) (.returned (.tuple #[.slice none 0 0, .int .i64 n])) w' := ⟨_, rfl, own_nil _ _ _ _, b⟩
def URel (w : World) (m : Nat) (R : Option (List Int)) (v0 v6 : Value) (wr : World) : Prop :=
  ∃ (d k : Nat) (l : List Int) (A : Option Addr) (c : Nat) (out : List Int), v0 = .slice A k c ∧ Hid (l.length = k) ∧ Hid (ReadsInt w .u8 A k l) ∧ k ≤ c ∧ Hid (∀ x ∈ l, 0 ≤ x ∧ x ≤ 255) ∧ k ≤ d ∧ Hid (upk d m l out = R) ∧ out.length ≤ m ∧ Hid (wr.ownsRow w.heap.size 5 1 v6 out.length (nums .u8 out)) ∧ Below w.heap.size w wr
def URel2 (w : World) (q : Nat) (out : List Int) (y : Int) (v6 v53 : Value) (wq : World) : Prop :=
  ∃ i : Nat, i ≤ q ∧ v53 = .int .i64 i ∧ Hid (wq.ownsRow w.heap.size 5 1 v6 (out ++ List.replicate i y).length (nums .u8 (out ++ List.replicate i y))) ∧ Below w.heap.size w wq
def sliceLen : Value → Nat
  | .slice _ n _ => n
  | _ => 0
set_option maxHeartbeats 6400000 in
set_option maxRecDepth 100000 in
theorem unpack_any (A0 : Option Addr) (c0 : Nat) (l0 : List Int) (n : Int) (w : World) (hr0 : ReadsInt w .u8 A0 l0.length l0) (hc0 : l0.length ≤ c0) (hw0 : ∀ x ∈ l0, 0 ≤ x ∧ x ≤ 255) :
    Calls Try.prog 12 #[.slice A0 l0.length c0, .int .i64 n] w (UPost w.heap.size w (unpQ l0 n)) := by
  by_cases hn : n < 0 ∨ 1048576 < n
  · have e : unpQ l0 n = ([], 1) := by unfold unpQ; rw [if_pos hn]
    rw [e]
    have hf : ∀ w', w = w' → UPost w.heap.size w ([], 1) (.returned (.tuple #[.slice none 0 0, .int .i64 1])) w' := fun w' h => by subst h; exact UPost.no (Below.refl _ _)
    have HF := Lib.hid hf
    clear e hf
    rcases hn with hn | hn
    · go_enter Try.func12, Try.ntmps12
      go_wp2
      go_ret2
      exact HF.out _ rfl
    · have h1 : ¬ n < 0 := by omega
      have h2 : (n > 1048576) = True := by simp; omega
      go_enter Try.func12, Try.ntmps12
      go_wp2
      go_ret2
      exact HF.out _ rfl
  · obtain ⟨m, rfl⟩ := Int.eq_ofNat_of_zero_le (show 0 ≤ n by omega)
    have hm : m ≤ 1048576 := by omega
    have e : unpQ l0 m = ansQ (upk l0.length m l0 []) := by unfold unpQ ansQ; rw [if_neg hn]; simp
    rw [e]
    have h1 : decide ((m : Int) < 0) = false := by simp
    have h2 : decide ((m : Int) > 1048576) = false := by simp; omega
    obtain ⟨R, hR⟩ : ∃ R, upk l0.length m l0 [] = R := ⟨_, rfl⟩
    rw [hR]
    have HR := Lib.hid hR
    obtain ⟨i0, hi, hz0, hz1, hz2⟩ := info_parts u8_info
    have HII := Lib.hid (And.intro hi (And.intro hz0 (And.intro hz1 hz2)))
    have hr0' : ∃ k l, l = l0 ∧ l.length = k ∧ ReadsInt w .u8 A0 k l ∧ k ≤ c0 := ⟨_, l0, rfl, rfl, hr0, hc0⟩
    obtain ⟨k0, l, hl, hk0, hrd, hkc⟩ := hr0'
    rw [← hl] at HR hw0 hR ⊢
    rw [hk0] at HR ⊢
    have HK0 := Lib.hid hk0
    have HRD := Lib.hid hrd
    have HW := Lib.hid hw0
    clear hR hr0 hc0 hi hz0 hz1 hz2 e hn hl hk0 hrd hw0
    go_enter Try.func12, Try.ntmps12
    go_wp2_with (refine wpList_make_own _ rfl (.const (.int .i64 0)) (.tmp 14) 22 rfl w.heap.size 5 i0 _ 1 Try.underlying22 HII.out.1 HII.out.2.1 HII.out.2.2.1 .i64 .i64 m m rfl rfl rfl (by rw [HII.out.2.2.2]; omega) (by unfold maxLen; omega) (Nat.le_refl _) ?_; intro w1 own1 gr1)
    have B1 : Below w.heap.size w w1 := ⟨gr1.os, gr1.tape, gr1.output, gr1.size, fun i hi => gr1.block i hi (by simp)⟩
    clear gr1
    have own1 : w1.ownsRow w.heap.size 5 1 (.slice (some ⟨w.heap.size, 0, none⟩) 0 m) ([] : List Int).length (nums .u8 []) := own1
    go_loopw [0, 6] (fun v0 v6 wr => URel w m R v0 v6 wr) (fun v0 _ _ => sliceLen v0)
    case atStart => exact ⟨k0, k0, l, A0, c0, [], rfl, HK0, HRD, hkc, HW, Nat.le_refl _, HR, Nat.zero_le _, Lib.hid own1, B1⟩
    case round =>
      clear HK0 HRD hkc HW HR own1 B1 l k0
      obtain ⟨d, k, l, A, c, out, rfl, HL, RD, hkc, HW, hkd, HR, hom, OWN, B⟩ := hrel
      obtain ⟨A6, c6, rfl⟩ := (own_reads OWN.out).imp fun _ h => h.imp fun _ h => h.1
      by_cases hk : 0 < k
      · obtain ⟨x, t, hl⟩ : ∃ x t, l = x :: t := by
          match l, HL with
          | [], H => have := H.out; simp at this; omega
          | x :: t, _ => exact ⟨x, t, rfl⟩
        obtain ⟨d, rfl⟩ : ∃ e, d = e + 1 := ⟨d - 1, by omega⟩
        have hx := HW.out x (by rw [hl]; simp)
        obtain ⟨x0, x255⟩ := hx
        obtain ⟨ad, hA, hcell⟩ := (RD.out.below B).2.2 hk
        have hc1 := hcell 0 hk
        subst hA
        have hx1 : l.getD 0 0 = x := by rw [hl]; rfl
        rw [hx1] at hc1
        have htl : t.length + 1 = k := by have := HL.out; rw [hl] at this; simpa using this
        have ht1 : t.length < k := by omega
        have ht2 : k ≤ t.length + 1 := by omega
        have e1 : ad.add 0 = ad := by unfold Addr.add; simp
        rw [e1] at hc1
        have U := Lib.hid (Try.underlying22)
        have hRl : upk (d + 1) m (x :: t) out = R := by rw [← hl]; exact HR.out
        have WT : ∀ y ∈ t, 0 ≤ y ∧ y ≤ 255 := fun y hy => HW.out y (by rw [hl]; exact List.mem_cons_of_mem _ hy)
        obtain ⟨j, rfl⟩ := Int.eq_ofNat_of_zero_le x0
        clear hx1 htl e1 x0
        by_cases h128 : (j : Int) < 128
        · by_cases hfit : (j : Int) + 1 < (k : Int)
          · obtain ⟨A1, q1, r1, _⟩ := print_mid_int (P := Try.prog) (k := .u8) 22 5 Try.underlying22 HII.out.1 HII.out.2.2.1 (some ad) c l 1 ((j : Int) + 2) (by omega) (by omega) (by rw [HL.out]; omega) (by rw [HL.out]; exact hkc)
            obtain ⟨A2, q2, r2, g2⟩ := print_drop_of (P := Try.prog) (Value.int .u8) (0 : Int) 22 5 .i64 Try.underlying22 HII.out.1 HII.out.2.2.1 (some ad) c l ((j : Int) + 2) (by omega) (by rw [HL.out]; omega) (by rw [HL.out]; exact hkc)
            have p1 : (l.take ((j : Int) + 2).toNat).drop (1 : Int).toNat = t.take (j + 1) := by
              rw [hl, show ((j : Int) + 2).toNat = j + 1 + 1 by omega]; rfl
            have p2 : l.drop ((j : Int) + 2).toNat = t.drop (j + 1) := by
              rw [hl, show ((j : Int) + 2).toNat = j + 1 + 1 by omega]; rfl
            have l1 : (t.take (j + 1)).length = j + 1 := by rw [List.length_take]; omega
            obtain ⟨kr, hkr⟩ : ∃ kr, (t.drop (j + 1)).length = kr := ⟨_, rfl⟩
            have l2 : kr + (j + 2) = k := by rw [← hkr, List.length_drop]; omega
            have g3 : (((j : Int) + 2).toNat) = j + 2 := by omega
            rw [HL.out, p1, l1] at q1
            rw [HL.out, p1, l1] at r1
            rw [HL.out, p2, hkr] at q2
            rw [HL.out, p2, hkr] at r2
            rw [p2, hkr] at g2
            obtain ⟨c2, hc2⟩ : ∃ c2, c - ((j : Int) + 2).toNat = c2 := ⟨_, rfl⟩
            obtain ⟨c3, hc3⟩ : ∃ c3, c - (1 : Int).toNat = c3 := ⟨_, rfl⟩
            rw [hc2] at q2 g2
            rw [hc3] at q1
            have hR2 : R = if m < (out ++ t.take (j + 1)).length then none else upk d m (t.drop (j + 1)) (out ++ t.take (j + 1)) := by
              rw [← hRl]; simp only [upk]; rw [if_pos h128, if_pos (by rw [Int.toNat_natCast]; omega), Int.toNat_natCast]
            have WP : ∀ y ∈ t.drop (j + 1), 0 ≤ y ∧ y ≤ 255 := fun y hy => WT y (List.mem_of_mem_drop hy)
            obtain ⟨pc, hpc⟩ : ∃ pc, t.take (j + 1) = pc := ⟨_, rfl⟩
            obtain ⟨rs, hrs⟩ : ∃ rs, t.drop (j + 1) = rs := ⟨_, rfl⟩
            rw [hpc, hrs] at hR2
            rw [hpc] at r1 l1
            rw [hrs] at r2 hkr WP
            have R1 := Lib.hid (r1 wr (RD.out.below B))
            have R2 : Hid (ReadsInt w .u8 A2 kr rs) := Lib.hid (r2 w RD.out)
            have HR2 := Lib.hid hR2
            have HKR := Lib.hid hkr
            have HWP := Lib.hid WP
            obtain ⟨q, hq⟩ : ∃ q, (out ++ pc).length = q := ⟨_, rfl⟩
            have HQL := Lib.hid hq
            have hq1 : q ≤ 1048576 + 300 := by rw [← hq, List.length_append, l1]; omega
            clear hq
            have l2a : kr + (j + 2) ≤ k := by omega
            have l2b : k ≤ kr + (j + 2) := by omega
            clear l2 hR2 r1 r2 p1 p2 l1 hkr g3 hc2 hc3 WP WT hpc hrs hl hRl HR hcell HW
            go_wp2_with (refine print_append_row (w0 := w) w.heap.size rfl (.tmp 33) (.tmp 37) 22 5 .u8 1 rfl Try.underlying22 u8_info (by omega) _ out pc A1 (j + 1) c3 rfl rfl OWN.out R1.out B B.size (by omega) ?_; intro v8 w8 own8 B8 gr8 at8; obtain ⟨A8, c8, rfl⟩ := (own_reads own8).imp fun _ h => h.imp fun _ h => h.1; rw [HQL.out] at own8; have OWN8 := Lib.hid own8; simp only [HQL.out]; clear own8 at8)
            all_goals have hk2 : kr ≤ d := by omega
            · have HRN : Hid (R = none) := Lib.hid (by rw [HR2.out, if_pos (by rw [HQL.out]; omega)])
              go_ret2
              rw [HRN.out]
              exact UPost.no (by assumption)
            · have HRN : Hid (upk d m rs (out ++ pc) = R) := Lib.hid (by rw [HR2.out, if_neg (by rw [HQL.out]; omega)])
              go_roundw
              case rel => exact ⟨d, kr, rs, A2, _, out ++ pc, rfl, HKR, R2, g2, HWP, hk2, HRN, by rw [HQL.out]; omega, Lib.hid (by rw [HQL.out]; exact OWN8.out), B8⟩
              case measure => simp [sliceLen]; omega
          · have HRN : Hid (R = none) := Lib.hid (by
              rw [← hRl]; simp only [upk]; rw [if_pos h128, if_neg (by rw [Int.toNat_natCast]; omega)])
            clear hRl HR
            go_wp2_with fail
            go_ret2
            rw [HRN.out]
            exact UPost.no (by assumption)
        · by_cases h129 : 128 < (j : Int)
          · by_cases hk1 : 1 < k
            · obtain ⟨y, t2, ht⟩ : ∃ y t2, t = y :: t2 := by
                match t, ht2 with
                | [], h => simp at h; omega
                | y :: t2, _ => exact ⟨y, t2, rfl⟩
              have hc2 := hcell 1 hk1
              have hy1 : l.getD 1 0 = y := by rw [hl, ht]; rfl
              rw [hy1] at hc2
              have hba : ad.block < w.heap.size := by
                obtain ⟨ad', e', h'⟩ := RD.out.2.2 hk
                cases e'
                exact World.block_lt_of_cell? w ad (by have := h' 0 hk; simpa [Addr.add] using this)
              have hc3 : ∀ W, Below w.heap.size w W → W.cell? (ad.add 1) = some (.int .u8 y) := fun W hW => by
                have := (RD.out.below hW).2.2 hk
                obtain ⟨ad', e', h'⟩ := this
                cases e'
                rw [← hy1]; exact h' 1 hk1
              obtain ⟨A2, q2, r2, g2⟩ := print_drop_of (P := Try.prog) (Value.int .u8) (0 : Int) 22 5 .i64 Try.underlying22 HII.out.1 HII.out.2.2.1 (some ad) c l 2 (by omega) (by rw [HL.out]; omega) (by rw [HL.out]; exact hkc)
              have p2 : l.drop (2 : Int).toNat = t2 := by rw [hl, ht]; rfl
              obtain ⟨kr, hkr⟩ : ∃ kr, t2.length = kr := ⟨_, rfl⟩
              have l2 : kr + 2 = k := by rw [← hkr]; have := HL.out; rw [hl, ht] at this; simpa using this
              rw [HL.out, p2, hkr] at q2
              rw [HL.out, p2, hkr] at r2
              rw [p2, hkr] at g2
              obtain ⟨c2, hc2'⟩ : ∃ c2, c - (2 : Int).toNat = c2 := ⟨_, rfl⟩
              rw [hc2'] at q2 g2
              have R2 : Hid (ReadsInt w .u8 A2 kr t2) := Lib.hid (r2 w RD.out)
              obtain ⟨q, hq⟩ : ∃ q, 257 - j = q := ⟨_, rfl⟩
              have HR2 : Hid (R = if m < (out ++ List.replicate q y).length then none else upk d m t2 (out ++ List.replicate q y)) := Lib.hid (by
                rw [← hRl, ht]; simp only [upk]; rw [if_neg h128, if_pos h129, show (257 - (j : Int)).toNat = q by omega])
              have HWP : Hid (∀ y ∈ t2, 0 ≤ y ∧ y ≤ 255) := Lib.hid (fun z hz => WT z (by rw [ht]; exact List.mem_cons_of_mem _ hz))
              have HKR := Lib.hid hkr
              have hqi : 257 - (j : Int) = (q : Int) := by omega
              have hq1 : q ≤ 129 := by omega
              have l2a : kr + 2 ≤ k := by omega
              have l2b : k ≤ kr + 2 := by omega
              have HC3 := Lib.hid hc3
              clear l2 hq hc2' hkr r2 p2 hc2 hy1 ht hRl HR HW WT hcell hl hc3
              go_upto_block 3 with fail
              refine wp_block ?_
              go_loopw [6, 53] (fun v6 v53 wq => URel2 w q out y v6 v53 wq) (fun _ v53 _ => q - (intOf v53).toNat)
              case atStart => exact ⟨0, Nat.zero_le _, rfl, Lib.hid (by simpa using OWN.out), B⟩
              case round =>
                clear OWN B
                obtain ⟨i, hi, rfl, OWN, B⟩ := hrel
                by_cases hlt : i < q
                · have hcy : wr.cell? ⟨ad.block, ad.off + 1, none⟩ = some (.int .u8 y) := by
                    have := HC3.out wr B
                    simpa [Addr.add] using this
                  have HLN : Hid ((out ++ List.replicate i y).length ≤ 1048576 + 300) := Lib.hid (by simp; omega)
                  have k0 : (0 : Int) ≤ 1 := by omega
                  have k1 : (1 : Int) < ↑k := by omega
                  go_wp2_with (refine print_append_num (w0 := w) w.heap.size rfl (.tmp 55) (.tmp 59) 22 5 .u8 1 rfl Try.underlying22 u8_info (by omega) _ (out ++ List.replicate i y) y rfl rfl OWN.out B B.size (by have := HLN.out; omega) ?_; intro v8 w8 own8 B8 gr8 at8)
                  have e9 : out ++ List.replicate i y ++ [y] = out ++ List.replicate (i + 1) y := by rw [List.append_assoc, ← List.replicate_succ']
                  rw [e9] at own8
                  have OWN8 := Lib.hid own8
                  clear own8 at8 gr8 e9
                  go_roundw
                  case rel => exact ⟨i + 1, by omega, by go_num, OWN8, B8⟩
                  case measure => simp [intOf]; omega
                · have hiq : i = q := by omega
                  subst hiq
                  have hk2 : kr ≤ d := by omega
                  obtain ⟨A8, c8, rfl⟩ := (own_reads OWN.out).imp fun _ h => h.imp fun _ h => h.1
                  obtain ⟨r, hr⟩ : ∃ r, (out ++ List.replicate i y).length = r := ⟨_, rfl⟩
                  have HRL := Lib.hid hr
                  rw [hr]
                  have OWN8 : Hid (wr.ownsRow w.heap.size 5 1 (.slice A8 r c8) r (nums .u8 (out ++ List.replicate i y))) := Lib.hid (by have := OWN.out; rwa [hr] at this)
                  clear OWN hr
                  by_cases hgt : (m : Int) < (r : Int)
                  · have HRN : Hid (R = none) := Lib.hid (by rw [HR2.out, if_pos (by rw [HRL.out]; omega)])
                    go_wp2_with fail
                    go_ret2
                    rw [HRN.out]
                    exact UPost.no (by assumption)
                  · have HRN : Hid (upk d m t2 (out ++ List.replicate i y) = R) := Lib.hid (by rw [HR2.out, if_neg (by rw [HRL.out]; omega)])
                    go_wp2_with fail
                    go_roundw
                    case rel => exact ⟨d, kr, t2, A2, _, out ++ List.replicate i y, rfl, HKR, R2, g2, HWP, hk2, HRN, by rw [HRL.out]; omega, Lib.hid (by rw [HRL.out]; exact OWN8.out), B⟩
                    case measure => simp [sliceLen]; omega
            · have HRN : Hid (R = none) := Lib.hid (by
                obtain rfl : t = [] := List.eq_nil_of_length_eq_zero (by omega)
                rw [← hRl]; simp only [upk]; rw [if_neg h128, if_pos h129])
              clear hRl HR
              go_wp2_with fail
              go_ret2
              rw [HRN.out]
              exact UPost.no (by assumption)
          · have HRN : Hid (R = none) := Lib.hid (by
              rw [← hRl]; simp only [upk]; rw [if_neg h128, if_neg h129])
            clear hRl HR
            go_wp2_with fail
            go_ret2
            rw [HRN.out]
            exact UPost.no (by assumption)
      · have e0 : k = 0 := by omega
        subst e0
        have hle : l = [] := List.eq_nil_of_length_eq_zero HL.out
        by_cases hom2 : out.length = m
        · have HRN : Hid (R = some out) := Lib.hid (by rw [← HR.out, hle]; cases d <;> simp [upk, hom2])
          have hb1 : ((out.length : Int) != (m : Int)) = false := by simp [hom2]
          have HOM := Lib.hid hom2
          clear hle HR hom2
          go_wp2_with fail
          go_ret2
          rw [HRN.out]
          exact ⟨_, rfl, OWN.out, B⟩
        · have HRN : Hid (R = none) := Lib.hid (by rw [← HR.out, hle]; cases d <;> simp [upk, hom2])
          have hb1 : ((out.length : Int) != (m : Int)) = true := by simp; omega
          clear hle HR hom2
          go_wp2_with fail
          go_ret2
          rw [HRN.out]
          exact UPost.no (by assumption)
end Go.Proofs.Ytakihcdolpocjaa.Unp
