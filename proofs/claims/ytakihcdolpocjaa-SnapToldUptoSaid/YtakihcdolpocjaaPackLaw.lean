/- Plain lists: what packing comes to (packL), that unpacking (unp) gives it back, and how long it may be. No program is in sight here. -/
import Derived.RowKit
namespace Go.Proofs.Ytakihcdolpocjaa.PackLaw

/-- how many bytes at the head are alike, from n on, 128 at most -/
def alk : Nat → List Int → Nat → Nat
  | 0, _, n => n
  | d + 1, l, n => if n < l.length ∧ n < 128 ∧ l.getD n 0 = l.getD 0 0 then alk d l (n + 1) else n
def run (l : List Int) : Nat := alk 127 l 1
def lit : Nat → List Int → Nat → Nat
  | 0, _, n => n
  | d + 1, l, n => if n < l.length ∧ n < 128 ∧ run (l.drop n) < 3 then lit d l (n + 1) else n
def litLen (l : List Int) : Nat := lit 127 l 1
def packL : Nat → List Int → List Int
  | 0, _ => []
  | k + 1, l => if l = [] then [] else if 3 ≤ run l then (257 - (run l : Int)) :: l.getD 0 0 :: packL k (l.drop (run l)) else ((litLen l : Int) - 1) :: (l.take (litLen l) ++ packL k (l.drop (litLen l)))
/-- unpacking: none where the pieces are none -/
def unp : Nat → List Int → Option (List Int)
  | _, [] => some []
  | 0, _ :: _ => none
  | k + 1, c :: t =>
    if c < 128 then (if c.toNat + 1 ≤ t.length then (unp k (t.drop (c.toNat + 1))).map (t.take (c.toNat + 1) ++ ·) else none)
    else if 128 < c then (match t with | [] => none | a :: t' => (unp k t').map (List.replicate (257 - c).toNat a ++ ·))
    else none

theorem alk_ge (d : Nat) : ∀ l n, n ≤ alk d l n := by
  induction d with
  | zero => intro l n; exact Nat.le_refl _
  | succ d ih => intro l n; unfold alk; split
                 · exact Nat.le_trans (Nat.le_succ n) (ih l (n + 1))
                 · exact Nat.le_refl _
theorem alk_le (d : Nat) : ∀ l n, n ≤ l.length → n ≤ 128 → alk d l n ≤ l.length ∧ alk d l n ≤ 128 := by
  induction d with
  | zero => intro l n h h'; exact ⟨h, h'⟩
  | succ d ih => intro l n h h'; unfold alk; split
                 · rename_i c; exact ih l (n + 1) (by omega) (by omega)
                 · exact ⟨h, h'⟩
theorem alk_same (d : Nat) : ∀ l n, (∀ j, j < n → l.getD j 0 = l.getD 0 0) → ∀ j, j < alk d l n → l.getD j 0 = l.getD 0 0 := by
  induction d with
  | zero => intro l n h; exact h
  | succ d ih =>
    intro l n h; unfold alk; split
    · rename_i c
      refine ih l (n + 1) (fun j hj => ?_)
      by_cases e : j = n
      · subst e; exact c.2.2
      · exact h j (by omega)
    · exact h
theorem run_pos (l : List Int) : 1 ≤ run l := alk_ge 127 l 1
theorem run_le {l : List Int} (h : l ≠ []) : run l ≤ l.length ∧ run l ≤ 128 :=
  alk_le 127 l 1 (by have := List.length_pos_iff.2 h; omega) (by omega)
theorem run_take {l : List Int} (h : l ≠ []) : l.take (run l) = List.replicate (run l) (l.getD 0 0) := by
  have hl := (run_le h).1
  apply List.ext_getElem
  · simp; omega
  · intro j h1 h2
    simp only [List.length_take, List.length_replicate] at h1 h2
    have hs := alk_same 127 l 1 (fun j hj => by have : j = 0 := by omega
                                                subst this; rfl) j h2
    rw [List.getElem_take, List.getElem_replicate, ← hs]
    simp [List.getD_eq_getElem?_getD, List.getElem?_eq_getElem (show j < l.length by omega)]
theorem lit_ge (d : Nat) : ∀ l n, n ≤ lit d l n := by
  induction d with
  | zero => intro l n; exact Nat.le_refl _
  | succ d ih => intro l n; unfold lit; split
                 · exact Nat.le_trans (Nat.le_succ n) (ih l (n + 1))
                 · exact Nat.le_refl _
theorem lit_le (d : Nat) : ∀ l n, n ≤ l.length → n ≤ 128 → lit d l n ≤ l.length ∧ lit d l n ≤ 128 := by
  induction d with
  | zero => intro l n h h'; exact ⟨h, h'⟩
  | succ d ih => intro l n h h'; unfold lit; split
                 · rename_i c; exact ih l (n + 1) (by omega) (by omega)
                 · exact ⟨h, h'⟩
/-- where a piece of its own ends early, the list ends or a run begins -/
theorem lit_end (d : Nat) : ∀ l n, 128 ≤ n + d → n ≤ 128 → lit d l n = 128 ∨ l.length ≤ lit d l n ∨ 3 ≤ run (l.drop (lit d l n)) := by
  induction d with
  | zero => intro l n h h'; left; unfold lit; omega
  | succ d ih =>
    intro l n h h'; unfold lit; split
    · rename_i c; exact ih l (n + 1) (by omega) (by omega)
    · rename_i c
      by_cases a : n < l.length
      · by_cases b : n < 128
        · right; right
          rcases Nat.lt_or_ge (run (l.drop n)) 3 with e | e
          · exact absurd ⟨a, b, e⟩ c
          · exact e
        · left; omega
      · right; left; omega
theorem litLen_pos (l : List Int) : 1 ≤ litLen l := lit_ge 127 l 1
theorem litLen_le {l : List Int} (h : l ≠ []) : litLen l ≤ l.length ∧ litLen l ≤ 128 :=
  lit_le 127 l 1 (by have := List.length_pos_iff.2 h; omega) (by omega)

/-- more fuel, the same -/
theorem packL_fuel (k : Nat) : ∀ l k', l.length ≤ k → l.length ≤ k' → packL k l = packL k' l := by
  induction k with
  | zero =>
    intro l k' h h'
    have e : l = [] := List.eq_nil_of_length_eq_zero (by omega)
    subst e
    cases k' <;> simp [packL]
  | succ k ih =>
    intro l k' h h'
    by_cases e : l = []
    · subst e; cases k' <;> simp [packL]
    · have hp := List.length_pos_iff.2 e
      obtain ⟨k', rfl⟩ : ∃ m, k' = m + 1 := ⟨k' - 1, by omega⟩
      unfold packL
      rw [if_neg e, if_neg e]
      have r1 := run_pos l
      have r2 := litLen_pos l
      split
      · rw [ih (l.drop (run l)) k' (by simp; omega) (by simp; omega)]
      · rw [ih (l.drop (litLen l)) k' (by simp; omega) (by simp; omega)]

theorem unp_fuel (k : Nat) : ∀ l k', l.length ≤ k → l.length ≤ k' → unp k l = unp k' l := by
  induction k with
  | zero =>
    intro l k' h h'
    have e : l = [] := List.eq_nil_of_length_eq_zero (by omega)
    subst e
    cases k' <;> simp [unp]
  | succ k ih =>
    intro l k' h h'
    cases l with
    | nil => cases k' <;> simp [unp]
    | cons c t =>
      simp only [List.length_cons] at h h'
      obtain ⟨k', rfl⟩ : ∃ m, k' = m + 1 := ⟨k' - 1, by omega⟩
      unfold unp
      rw [ih (t.drop (c.toNat + 1)) k' (by simp; omega) (by simp; omega)]
      cases t with
      | nil => rfl
      | cons a t' =>
        simp only [List.length_cons] at h h'
        have hh := ih t' k' (by omega) (by omega)
        simp only [hh]

/-- WHAT IS PACKED IS UNPACKED TO ITSELF. -/
theorem unp_packL (k : Nat) : ∀ l, l.length ≤ k → ∀ f, (packL k l).length ≤ f → unp f (packL k l) = some l := by
  induction k with
  | zero =>
    intro l h f _
    have e : l = [] := List.eq_nil_of_length_eq_zero (by omega)
    subst e
    cases f <;> simp [packL, unp]
  | succ k ih =>
    intro l h f hf
    by_cases e : l = []
    · subst e; cases f <;> simp [packL, unp]
    · have r1 := run_pos l
      have r2 := litLen_pos l
      have r3 := run_le e
      have r4 := litLen_le e
      unfold packL at hf ⊢
      rw [if_neg e] at hf ⊢
      by_cases c : 3 ≤ run l
      · rw [if_pos c] at hf ⊢
        simp only [List.length_cons] at hf
        obtain ⟨f, rfl⟩ : ∃ m, f = m + 1 := ⟨f - 1, by omega⟩
        unfold unp
        rw [if_neg (by omega), if_pos (by omega)]
        have hi := ih (l.drop (run l)) (by simp; omega) f (by omega)
        simp only [hi, Option.map_some]
        have hn : (257 - (257 - (run l : Int))).toNat = run l := by omega
        rw [hn, ← run_take e, List.take_append_drop]
      · rw [if_neg c] at hf ⊢
        simp only [List.length_cons, List.length_append] at hf
        obtain ⟨f, rfl⟩ : ∃ m, f = m + 1 := ⟨f - 1, by omega⟩
        have hlt : (l.take (litLen l)).length = litLen l := by simp; omega
        unfold unp
        have hn : ((litLen l : Int) - 1).toNat + 1 = litLen l := by omega
        rw [if_pos (by omega), hn, if_pos (by simp; omega), List.drop_left' hlt, List.take_left' hlt]
        rw [ih (l.drop (litLen l)) (by simp; omega) f (by omega)]
        simp

/-- HOW LONG: a byte more for each 128, and one; nothing more where it begins with a run. -/
theorem packL_len (k : Nat) : ∀ l, l.length ≤ k → (packL k l).length ≤ l.length + l.length / 128 + 1 ∧ (3 ≤ run l → l ≠ [] → (packL k l).length ≤ l.length + l.length / 128) := by
  induction k with
  | zero =>
    intro l h
    have e : l = [] := List.eq_nil_of_length_eq_zero (by omega)
    subst e
    simp [packL]
  | succ k ih =>
    intro l h
    by_cases e : l = []
    · subst e; simp [packL]
    · have r1 := run_pos l
      have r2 := litLen_pos l
      have r3 := run_le e
      have r4 := litLen_le e
      unfold packL
      rw [if_neg e]
      by_cases c : 3 ≤ run l
      · rw [if_pos c]
        have hi := (ih (l.drop (run l)) (by simp; omega)).1
        simp only [List.length_drop] at hi
        simp only [List.length_cons]
        omega
      · rw [if_neg c]
        have hi := ih (l.drop (litLen l)) (by simp; omega)
        have hd := lit_end 127 l 1 (by omega) (by omega)
        change litLen l = 128 ∨ l.length ≤ litLen l ∨ 3 ≤ run (l.drop (litLen l)) at hd
        simp only [List.length_drop] at hi
        simp only [List.length_cons, List.length_append, List.length_take]
        refine ⟨?_, fun x => absurd x c⟩
        rcases hd with h1 | h1 | h1
        · have := hi.1; omega
        · have : l.drop (litLen l) = [] := List.drop_eq_nil_of_le h1
          rw [this]
          have : (packL k []).length = 0 := by cases k <;> simp [packL]
          omega
        · by_cases e2 : l.drop (litLen l) = []
          · rw [e2]
            have : (packL k []).length = 0 := by cases k <;> simp [packL]
            omega
          · have := hi.2 h1 e2; omega
end Go.Proofs.Ytakihcdolpocjaa.PackLaw
