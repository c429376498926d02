/- The document's Unpack over plain lists answers what the program's does. -/
import Derived.Test.YtakihcdolpocjaaUnp
namespace Go.Proofs.Ytakihcdolpocjaa.Unp
open Go.RowKit Go.Proofs.Ytakihcdolpocjaa.PSnapUnpacks Go.Proofs.YtakihcdolpocjaaW.PrintWords Go.Proofs.YtakihcdolpocjaaW.PrintLast

theorem wrap_in (n : Int) (h : -9223372036854775808 ≤ n ∧ n ≤ 9223372036854775807) : wrap64 n = n := by unfold wrap64; omega
theorem rd_nat (l : List Int) (n : Nat) : rd l (n : Int) = l.getD n 0 := by unfold rd; simp
theorem refl1 (x0 : List Int) (m i c : Nat) (y : Int) (hx : x0.length ≤ 140737488351232) (hi : i + 1 < x0.length) (hy : x0.getD (i + 1) 0 = y) (hc : 128 < c) (hc2 : c ≤ 255) :
    ∀ (s t k : Nat) (out : List Int), s + t = 257 - c → out.length + s ≤ 2000000 → atlasref29_Unpack.l1 (k + s + 1) x0 (m : Int) out (i : Int) (c : Int) (t : Int) =
      if m < (out ++ List.replicate s y).length then some ([], 291) else atlasref29_Unpack.l0 k x0 (m : Int) (out ++ List.replicate s y) (wrap64 ((i : Int) + 2)) := by
  intro s
  induction s with
  | zero =>
    intro t k out h1 h2
    simp only [atlasref29_Unpack.l1]
    rw [wrap_in (257 - (c : Int)) (by omega), if_neg (by omega)]
    simp only [List.replicate_zero, List.append_nil]
    by_cases h : m < out.length
    · rw [if_pos h, if_pos (by omega)]
    · rw [if_neg h, if_neg (by omega)]
  | succ s ih =>
    intro t k out h1 h2
    rw [show k + (s + 1) + 1 = (k + s + 1) + 1 by omega]
    obtain ⟨K, hK⟩ : ∃ K, k + s + 1 = K := ⟨_, rfl⟩
    rw [hK]
    simp only [atlasref29_Unpack.l1]
    rw [wrap_in (257 - (c : Int)) (by omega), if_pos (by omega), wrap_in ((i : Int) + 1) (by omega), if_pos (by omega), if_pos (by omega), if_pos (by omega), wrap_in ((t : Int) + 1) (by omega)]
    have e1 : rd x0 ((i : Int) + 1) = y := by rw [show (i : Int) + 1 = ((i + 1 : Nat) : Int) by omega, rd_nat, hy]
    rw [e1, show (t : Int) + 1 = ((t + 1 : Nat) : Int) by omega, ← hK, ih (t + 1) k (out ++ [y]) (by omega) (by simp; omega)]
    have e2 : out ++ [y] ++ List.replicate s y = out ++ List.replicate (s + 1) y := by rw [List.append_assoc, List.replicate_succ]; rfl
    rw [e2]
theorem refl0 (x0 : List Int) (m : Nat) (hm : m ≤ 1048576) (hx : x0.length ≤ 140737488351232) (hw : ∀ x ∈ x0, 0 ≤ x ∧ x ≤ 255) :
    ∀ (d i k : Nat) (out : List Int), i ≤ x0.length → x0.length ≤ i + d → out.length ≤ m → 140 * d + 140 ≤ k → atlasref29_Unpack.l0 k x0 (m : Int) out (i : Int) = some (ansQ (upk d m (x0.drop i) out)) := by
  intro d
  induction d with
  | zero =>
    intro i k out h1 h2 h3 h4
    obtain ⟨k, rfl⟩ : ∃ q, k = q + 1 := ⟨k - 1, by omega⟩
    have e : x0.drop i = [] := List.drop_eq_nil_of_le (by omega)
    rw [e]
    simp only [atlasref29_Unpack.l0, upk]
    rw [if_neg (by omega)]
    by_cases h : out.length = m
    · rw [if_pos (by omega), if_pos h]; rfl
    · rw [if_neg (by omega), if_neg h]; rfl
  | succ d ih =>
    intro i k out h1 h2 h3 h4
    obtain ⟨k, rfl⟩ : ∃ q, k = q + 1 := ⟨k - 1, by omega⟩
    by_cases hil : i < x0.length
    · obtain ⟨x, t, hl⟩ : ∃ x t, x0.drop i = x :: t := ⟨_, _, List.drop_eq_getElem_cons hil⟩
      have htl : t.length + 1 + i = x0.length := by
        have := congrArg List.length hl
        simp at this; omega
      have ht : t = x0.drop (i + 1) := by rw [← List.drop_drop, hl]; rfl
      have hxi : x0.getD i 0 = x := by
        have := congrArg (fun l => l.getD 0 0) hl
        simpa [List.getD_eq_getElem?_getD] using this
      obtain ⟨q1, q2⟩ := hw x (by have : x ∈ x0.drop i := by rw [hl]; exact List.mem_cons_self
                                  exact List.mem_of_mem_drop this)
      obtain ⟨c, rfl⟩ := Int.eq_ofNat_of_zero_le q1
      rw [hl]
      have hU : upk (d + 1) m ((c : Int) :: t) out = if (c : Int) < 128 then (if c + 1 ≤ t.length then (if m < (out ++ t.take (c + 1)).length then none else upk d m (t.drop (c + 1)) (out ++ t.take (c + 1))) else none)
          else if 128 < (c : Int) then (match t with | [] => none | a :: t' => if m < (out ++ List.replicate (257 - c) a).length then none else upk d m t' (out ++ List.replicate (257 - c) a)) else none := by
        have e1 : (257 - (c : Int)).toNat = 257 - c := by omega
        cases t <;> simp only [upk, Int.toNat_natCast, e1]
      rw [hU]
      simp only [atlasref29_Unpack.l0]
      rw [if_pos (show (i : Int) < (x0.length : Int) by omega), if_pos (show (0 : Int) ≤ i by omega), rd_nat, hxi, wrap_in (c : Int) (by omega)]
      by_cases c1 : c < 128
      · rw [if_neg (show ¬ (c : Int) = 128 by omega), if_pos (show (c : Int) < 128 by omega), if_pos (show (c : Int) < 128 by omega), wrap_in ((i : Int) + c) (by omega), wrap_in ((i : Int) + c + 2) (by omega)]
        by_cases c2 : c + 1 ≤ t.length
        · rw [if_neg (show ¬ (i : Int) + c + 2 > (x0.length : Int) by omega), wrap_in ((i : Int) + 1) (by omega), if_pos (show (0 : Int) ≤ (i : Int) + 1 by omega), if_pos (show (i : Int) + 1 ≤ (i : Int) + c + 2 by omega), if_pos (show (i : Int) + c + 2 ≤ (x0.length : Int) by omega)]
          have e1 : (x0.take ((i : Int) + c + 2).toNat).drop ((i : Int) + 1).toNat = t.take (c + 1) := by
            rw [show ((i : Int) + c + 2).toNat = i + 1 + (c + 1) by omega, show ((i : Int) + 1).toNat = i + 1 by omega, ht, List.drop_take, show i + 1 + (c + 1) - (i + 1) = c + 1 by omega]
          have e2 : (t.take (c + 1)).length = c + 1 := by rw [List.length_take]; omega
          rw [e1, e2, if_pos (show out.length + (c + 1) < 140737488355328 by omega), if_pos c2]
          simp only [Option.bind_some]
          by_cases c3 : m < (out ++ t.take (c + 1)).length
          · rw [if_pos c3, if_pos (by omega)]; rfl
          · rw [if_neg c3, if_neg (by omega), show (i : Int) + c + 2 = ((i + c + 2 : Nat) : Int) by omega, ih (i + c + 2) k _ (by omega) (by omega) (by omega) (by omega)]
            rw [show t.drop (c + 1) = x0.drop (i + c + 2) by rw [ht, List.drop_drop, show i + 1 + (c + 1) = i + c + 2 by omega]]
        · rw [if_pos (show (i : Int) + c + 2 > (x0.length : Int) by omega), if_neg c2]; rfl
      · by_cases c2 : c = 128
        · subst c2
          simp [ansQ]
        · rw [if_neg (show ¬ (c : Int) = 128 by omega), if_neg (show ¬ (c : Int) < 128 by omega), if_neg (show ¬ (c : Int) < 128 by omega), if_pos (show 128 < (c : Int) by omega), wrap_in ((i : Int) + 2) (by omega)]
          rcases t with _ | ⟨y, t2⟩
          · simp only [List.length_nil] at htl
            rw [if_pos (show (i : Int) + 2 > (x0.length : Int) by omega)]; rfl
          · simp only [List.length_cons] at htl
            rw [if_neg (show ¬ (i : Int) + 2 > (x0.length : Int) by omega)]
            have hy : x0.getD (i + 1) 0 = y := by
              have := congrArg (fun l => l.getD 0 0) ht
              simpa [List.getD_eq_getElem?_getD] using this.symm
            obtain ⟨k', hk'⟩ : ∃ k', k = k' + (257 - c) + 1 := ⟨k - (257 - c) - 1, by omega⟩
            have hr := refl1 x0 m i c y hx (by omega) hy (by omega) (by omega) (257 - c) 0 k' out (by omega) (by omega)
            rw [← hk'] at hr
            rw [show ((0 : Int)) = ((0 : Nat) : Int) by rfl, hr]
            dsimp only
            by_cases c3 : m < (out ++ List.replicate (257 - c) y).length
            · rw [if_pos c3, if_pos c3]; rfl
            · rw [if_neg c3, if_neg c3, wrap_in ((i : Int) + 2) (by omega), show (i : Int) + 2 = ((i + 2 : Nat) : Int) by omega, ih (i + 2) k' _ (by omega) (by omega) (by omega) (by omega)]
              have e3 : x0.drop (i + 2) = t2 := by rw [show i + 2 = i + 1 + 1 by omega, ← List.drop_drop, ← ht]; rfl
              rw [e3]
    · have e : x0.drop i = [] := List.drop_eq_nil_of_le (by omega)
      rw [e]
      simp only [atlasref29_Unpack.l0, upk]
      rw [if_neg (by omega)]
      by_cases h : out.length = m
      · rw [if_pos (by omega), if_pos h]; rfl
      · rw [if_neg (by omega), if_neg h]; rfl
theorem ref_is (l : List Int) (n : Int) (hx : l.length ≤ 140737488351232) (hw : ∀ x ∈ l, 0 ≤ x ∧ x ≤ 255) : atlasref29_Unpack.f (140 * l.length + 200) l n = some (unpQ l n) := by
  unfold atlasref29_Unpack.f unpQ
  by_cases h1 : n < 0
  · rw [if_pos h1, if_pos (.inl h1)]
    simp [atlasref29_Unpack.j0]
  · rw [if_neg h1]
    by_cases h2 : 1048576 < n
    · rw [if_pos (.inr h2)]
      simp [atlasref29_Unpack.j0, h2]
    · rw [if_neg (by omega)]
      obtain ⟨m, rfl⟩ := Int.eq_ofNat_of_zero_le (show 0 ≤ n by omega)
      have e : decide ((m : Int) > 1048576) = false := by simp; omega
      rw [e]
      simp only [atlasref29_Unpack.j0, Bool.false_eq_true, if_false]
      have := refl0 l m (by omega) hx hw l.length 0 (140 * l.length + 199) [] (by omega) (by omega) (by simp) (by omega)
      simp only [List.drop_zero] at this
      rw [show ((0 : Int)) = ((0 : Nat) : Int) by rfl, this]
      simp [ansQ]
end Go.Proofs.Ytakihcdolpocjaa.Unp
