/- Plain lists: what is packed is unpacked to itself, and to no other number of bytes. -/
import Derived.Test.YtakihcdolpocjaaUnp
import Derived.Test.YtakihcdolpocjaaPackLaw
namespace Go.Proofs.Ytakihcdolpocjaa.Unp
open Go.RowKit Go.Proofs.Ytakihcdolpocjaa.PackLaw

/-- what is unpacked behind out, by the pieces alone -/
def unpA (r : Option (List Int)) (n : Nat) (out : List Int) : Option (List Int) := match r with | some r => if out.length + r.length = n then some (out ++ r) else none | none => none
theorem unpA_map (r : Option (List Int)) (n : Nat) (out p : List Int) : unpA (r.map (p ++ ·)) n out = unpA r n (out ++ p) := by
  cases r with
  | none => rfl
  | some r => simp [unpA, Nat.add_assoc]
theorem unpA_long (r : Option (List Int)) (n : Nat) (out : List Int) (h : n < out.length) : unpA r n out = none := by
  cases r with
  | none => rfl
  | some r => simp only [unpA]; rw [if_neg (by omega)]
theorem upk_unp (d : Nat) : ∀ (n : Nat) (l out : List Int), l.length ≤ d → upk d n l out = unpA (unp d l) n out := by
  induction d with
  | zero =>
    intro n l out h
    obtain rfl : l = [] := List.eq_nil_of_length_eq_zero (by omega)
    simp [upk, unp, unpA]
  | succ d ih =>
    intro n l out h
    match l with
    | [] => simp [upk, unp, unpA]
    | c :: t =>
      simp only [List.length_cons] at h
      simp only [upk, unp]
      by_cases c1 : c < 128
      · rw [if_pos c1, if_pos c1]
        by_cases c2 : c.toNat + 1 ≤ t.length
        · rw [if_pos c2, if_pos c2, unpA_map]
          by_cases c3 : n < (out ++ t.take (c.toNat + 1)).length
          · rw [if_pos c3, unpA_long _ _ _ c3]
          · rw [if_neg c3]
            exact ih _ _ _ (by simp; omega)
        · rw [if_neg c2, if_neg c2]; rfl
      · rw [if_neg c1, if_neg c1]
        by_cases c2 : 128 < c
        · rw [if_pos c2, if_pos c2]
          match t with
          | [] => rfl
          | a :: t' =>
            dsimp only
            rw [unpA_map]
            by_cases c3 : n < (out ++ List.replicate (257 - c).toNat a).length
            · rw [if_pos c3, unpA_long _ _ _ c3]
            · rw [if_neg c3]
              exact ih _ _ _ (by simp at h ⊢; omega)
        · rw [if_neg c2, if_neg c2]; rfl
/-- the bytes of what is packed -/
theorem packL_bytes (k : Nat) : ∀ l : List Int, (∀ x ∈ l, 0 ≤ x ∧ x ≤ 255) → ∀ x ∈ packL k l, 0 ≤ x ∧ x ≤ 255 := by
  induction k with
  | zero => intro l _ x hx; cases hx
  | succ k ih =>
    intro l hl x hx
    unfold packL at hx
    by_cases e : l = []
    · rw [if_pos e] at hx; cases hx
    · rw [if_neg e] at hx
      have r1 := run_le e
      have r2 := litLen_le e
      have r3 := litLen_pos l
      by_cases c : 3 ≤ run l
      · rw [if_pos c] at hx
        rcases List.mem_cons.1 hx with rfl | hx
        · omega
        rcases List.mem_cons.1 hx with rfl | hx
        · match l, e with
          | y :: t, _ => exact hl y List.mem_cons_self
        · exact ih _ (fun y hy => hl y (List.mem_of_mem_drop hy)) x hx
      · rw [if_neg c] at hx
        rcases List.mem_cons.1 hx with rfl | hx
        · omega
        rcases List.mem_append.1 hx with hx | hx
        · exact hl x (List.mem_of_mem_take hx)
        · exact ih _ (fun y hy => hl y (List.mem_of_mem_drop hy)) x hx
theorem told_is (l : List Int) (n : Int) (hl : l.length ≤ 1048576) : unpQ (packL l.length l) n = if n < 0 ∨ 1048576 < n then ([], 1) else if n = (l.length : Int) then (l, 0) else ([], 291) := by
  unfold unpQ
  by_cases h : n < 0 ∨ 1048576 < n
  · rw [if_pos h, if_pos h]
  · rw [if_neg h, if_neg h, upk_unp _ _ _ _ (Nat.le_refl _), unp_packL l.length l (Nat.le_refl _) _ (Nat.le_refl _)]
    simp only [unpA, List.length_nil, Nat.zero_add, List.nil_append]
    by_cases e : n = (l.length : Int)
    · rw [if_pos e, if_pos (by omega)]
    · rw [if_neg e, if_neg (by omega)]
end Go.Proofs.Ytakihcdolpocjaa.Unp
