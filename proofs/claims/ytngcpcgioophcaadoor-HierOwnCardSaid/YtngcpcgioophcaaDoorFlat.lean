/- How a struct of numbers and bools (structs of such in it too) reads: its cells are of the kinds that its fields have, one behind the other. -/
import Derived.ProofKit
import Derived.OpenShut
import Derived.Deep.Slices
namespace Go.Proofs.YtngcpcgioophcaaDoor.Flat
open Go.ChangeShapes Go.WideShapes Go.RowKit

/-- none: a bool; some k: a whole number of that kind -/
def fits : Option IntKind → Value → Prop
  | some k, v => ∃ n, v = .int k n ∧ (Lit.int k n).wf = true
  | none, v => ∃ b, v = .bool b
def fitsAll : List (Option IntKind) → List Value → Prop
  | [], [] => True
  | k :: ks, v :: vs => fits k v ∧ fitsAll ks vs
  | _, _ => False
theorem fitsAll_append {ks ls : List (Option IntKind)} : ∀ {vs ws : List Value}, fitsAll ks vs → fitsAll ls ws → fitsAll (ks ++ ls) (vs ++ ws) := by
  induction ks with
  | nil => intro vs ws h h'; cases vs <;> simp [fitsAll] at h ⊢; exact h'
  | cons k ks ih => intro vs ws h h'; cases vs <;> simp [fitsAll] at h ⊢; exact ⟨h.1, ih h.2 h'⟩
theorem fitsAll_len {ks : List (Option IntKind)} : ∀ {vs : List Value}, fitsAll ks vs → vs.length = ks.length := by
  induction ks with
  | nil => intro vs h; cases vs <;> simp [fitsAll] at h ⊢
  | cons k ks ih => intro vs h; cases vs <;> simp [fitsAll] at h ⊢; exact ih h.2
def flatFs (P : Program) (F : TypeId → Option (List (Option IntKind))) : Nat → List Field → Option (List (Option IntKind))
  | _, [] => some []
  | off, f :: fs => match F f.type, decide (f.offset = off) with
    | some a, true => if P.cellsOf f.type = a.length then (flatFs P F (off + a.length) fs).map (a ++ ·) else none
    | _, _ => none
def flatT (P : Program) : Nat → TypeId → Option (List (Option IntKind))
  | 0, _ => none
  | n + 1, t => match P.underlying t with
    | some .bool => some [none]
    | some (.int k) => some [some k]
    | some (.struct fs) => flatFs P (flatT P n) 0 fs.toList
    | _ => none
section
variable {H : Type} {enc : TypeId × Value → H} {P : Program} {w : World} {base : Nat} {spare : Nat → Bool} {held : Bool}
theorem flatFs_fits2 {F : TypeId → Option (List (Option IntKind))} {n : Nat} (ih : ∀ t ks cs x, F t = some ks → DataW.trod enc P w base spare held n t cs = some x → P.cellsOf t = ks.length → fitsAll ks cs) (cs : List Value) :
    ∀ (fs : List Field) (off : Nat) (ks : List (Option IntKind)), flatFs P F off fs = some ks → (∀ f ∈ fs, ∃ y, DataW.trod enc P w base spare held n f.type ((cs.drop f.offset).take (P.cellsOf f.type)) = some y) →
      fitsAll ks ((cs.drop off).take ks.length) := by
  intro fs
  induction fs with
  | nil => intro off ks h _; simp [flatFs] at h; subst h; simp [fitsAll]
  | cons f fs ih2 =>
    intro off ks h hf
    unfold flatFs at h
    cases hF : F f.type with
    | none => rw [hF] at h; simp at h
    | some a =>
      rw [hF] at h
      by_cases ho : f.offset = off
      · simp only [ho, decide_true] at h
        by_cases hc : P.cellsOf f.type = a.length
        · rw [if_pos hc] at h
          cases hr : flatFs P F (off + a.length) fs with
          | none => rw [hr] at h; simp at h
          | some ls =>
            rw [hr] at h
            simp at h
            subst h
            obtain ⟨y, hy⟩ := hf f List.mem_cons_self
            rw [ho, hc] at hy
            have h1 := ih _ _ _ _ hF hy hc
            have h2 := ih2 _ _ hr (fun g hg => hf g (List.mem_cons_of_mem _ hg))
            have e : (cs.drop off).take (a ++ ls).length = (cs.drop off).take a.length ++ (cs.drop (off + a.length)).take ls.length := by
              rw [List.length_append, List.take_add, List.drop_drop]
            rw [e]
            exact fitsAll_append h1 h2
        · rw [if_neg hc] at h; simp at h
      · simp [ho] at h
theorem flatT_fits (n : Nat) : ∀ (fuel : Nat) t ks cs x, flatT P n t = some ks → DataW.trod enc P w base spare held fuel t cs = some x → P.cellsOf t = ks.length → fitsAll ks cs := by
  have hone : ∀ n fuel t ks cs x, flatT P n t = some ks → DataW.trod enc P w base spare held fuel t cs = some x → (∀ fs, P.underlying t = some (.struct fs) → P.cellsOf t = ks.length) → fitsAll ks cs := by
    intro n
    induction n with
    | zero => intro fuel t ks cs x h; simp [flatT] at h
    | succ n ih =>
      intro fuel t ks cs x h ht hc
      unfold flatT at h
      cases hu : P.underlying t with
      | none => rw [hu] at h; simp at h
      | some u =>
        rw [hu] at h
        cases u <;> simp only [Option.some.injEq, reduceCtorEq] at h
        case bool =>
          subst h
          obtain ⟨b, rfl, _⟩ := DataW.trod_bool hu ht
          exact ⟨⟨b, rfl⟩, trivial⟩
        case int k =>
          subst h
          obtain ⟨m, rfl, _, hw⟩ := DataW.trod_int hu ht
          exact ⟨⟨m, rfl, hw⟩, trivial⟩
        case struct fs =>
          obtain ⟨xs, m, _, _, hlen, hxl, hg⟩ := DataW.trod_struct hu ht
          have hcl := hc fs hu
          have hsub : ∀ t' ks' cs' x', flatT P n t' = some ks' → DataW.trod enc P w base spare held m t' cs' = some x' → P.cellsOf t' = ks'.length → fitsAll ks' cs' := fun t' ks' cs' x' h1 h2 h3 => ih m t' ks' cs' x' h1 h2 (fun _ _ => h3)
          have h9 := flatFs_fits2 hsub cs fs.toList 0 ks h (fun f hf => by
            obtain ⟨i, hi, he⟩ := List.getElem_of_mem hf
            have hi' : i < fs.size := by simpa using hi
            have hfi : fs[i]? = some f := by rw [Array.getElem?_eq_getElem hi']; simpa using he
            exact ⟨_, (hg i f hfi).trans (List.getElem?_eq_getElem (by omega))⟩)
          rw [List.drop_zero, List.take_of_length_le (by omega)] at h9
          exact h9
  exact fun fuel t ks cs x h ht hc => hone n fuel t ks cs x h ht (fun _ _ => hc)
end
end Go.Proofs.YtngcpcgioophcaaDoor.Flat
