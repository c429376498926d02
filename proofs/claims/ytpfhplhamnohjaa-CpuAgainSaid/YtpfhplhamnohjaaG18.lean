/- How a struct of numbers and bools (structs and arrays of such in it too) reads: its cells are of the kinds that its fields have, one behind the other. Layer 20: how a state reads, out of its cells. -/
import Derived.ProofKit
import Derived.OpenShut
import Derived.Deep.Slices
import Derived.Test.YtpfhplhamnohjaaG09
namespace Go.Proofs.Ytpfhplhamnohjaa.Flat
open Go.ChangeShapes Go.WideShapes Go.RowKit

/-- none: a bool; some k: a whole number of that kind -/
def fits : Option IntKind → Value → Prop
  | some k, v => ∃ n, v = .int k n ∧ (Lit.int k n).wf = true
  | none, v => ∃ b, v = .bool b
def fitsAll : List (Option IntKind) → List Value → Prop
  | [], [] => True
  | k :: ks, v :: vs => fits k v ∧ fitsAll ks vs
  | _, _ => False
theorem fitsAll_append {ks ls : List (Option IntKind)} : ∀ {vs ws : List Value}, fitsAll ks vs → fitsAll ls ws → fitsAll (ks ++ ls) (vs ++ ws) := by
  induction ks with
  | nil => intro vs ws h h'; cases vs <;> simp [fitsAll] at h ⊢; exact h'
  | cons k ks ih => intro vs ws h h'; cases vs <;> simp [fitsAll] at h ⊢; exact ⟨h.1, ih h.2 h'⟩
theorem fitsAll_len {ks : List (Option IntKind)} : ∀ {vs : List Value}, fitsAll ks vs → vs.length = ks.length := by
  induction ks with
  | nil => intro vs h; cases vs <;> simp [fitsAll] at h ⊢
  | cons k ks ih => intro vs h; cases vs <;> simp [fitsAll] at h ⊢; exact ih h.2
def flatFs (P : Program) (F : TypeId → Option (List (Option IntKind))) : Nat → List Field → Option (List (Option IntKind))
  | _, [] => some []
  | off, f :: fs => match F f.type, decide (f.offset = off) with
    | some a, true => if P.cellsOf f.type = a.length then (flatFs P F (off + a.length) fs).map (a ++ ·) else none
    | _, _ => none
def flatT (P : Program) : Nat → TypeId → Option (List (Option IntKind))
  | 0, _ => none
  | n + 1, t => match P.underlying t with
    | some .bool => some [none]
    | some (.int k) => some [some k]
    | some (.struct fs) => flatFs P (flatT P n) 0 fs.toList
    | some (.array m e) => match flatT P n e with
      | some a => if P.cellsOf e = a.length then some (List.replicate m a).flatten else none
      | none => none
    | _ => none
theorem fitsAll_rep {a : List (Option IntKind)} {cs : List Value} : ∀ (m off : Nat), (∀ i, i < m → fitsAll a ((cs.drop ((off + i) * a.length)).take a.length)) → fitsAll (List.replicate m a).flatten ((cs.drop (off * a.length)).take (m * a.length))
  | 0, off, _ => by simp [fitsAll]
  | m + 1, off, h => by
    rw [List.replicate_succ, List.flatten_cons, Nat.add_mul, Nat.one_mul, Nat.add_comm (m * a.length), List.take_add, List.drop_drop]
    refine fitsAll_append (by simpa using h 0 (by omega)) ?_
    have := fitsAll_rep m (off + 1) (fun i hi => by have := h (i + 1) (by omega); rwa [show off + 1 + i = off + (i + 1) by omega])
    rwa [show (off + 1) * a.length = off * a.length + a.length by rw [Nat.add_mul, Nat.one_mul]] at this
section
variable {H : Type} {enc : TypeId × Value → H} {P : Program} {w : World} {base : Nat} {spare : Nat → Bool} {held : Bool}
theorem flatFs_fits2 {F : TypeId → Option (List (Option IntKind))} {n : Nat} (ih : ∀ t ks cs x, F t = some ks → DataW.trod enc P w base spare held n t cs = some x → P.cellsOf t = ks.length → fitsAll ks cs) (cs : List Value) :
    ∀ (fs : List Field) (off : Nat) (ks : List (Option IntKind)), flatFs P F off fs = some ks → (∀ f ∈ fs, ∃ y, DataW.trod enc P w base spare held n f.type ((cs.drop f.offset).take (P.cellsOf f.type)) = some y) →
      fitsAll ks ((cs.drop off).take ks.length) := by
  intro fs
  induction fs with
  | nil => intro off ks h _; simp [flatFs] at h; subst h; simp [fitsAll]
  | cons f fs ih2 =>
    intro off ks h hf
    unfold flatFs at h
    cases hF : F f.type with
    | none => rw [hF] at h; simp at h
    | some a =>
      rw [hF] at h
      by_cases ho : f.offset = off
      · simp only [ho, decide_true] at h
        by_cases hc : P.cellsOf f.type = a.length
        · rw [if_pos hc] at h
          cases hr : flatFs P F (off + a.length) fs with
          | none => rw [hr] at h; simp at h
          | some ls =>
            rw [hr] at h
            simp at h
            subst h
            obtain ⟨y, hy⟩ := hf f List.mem_cons_self
            rw [ho, hc] at hy
            have h1 := ih _ _ _ _ hF hy hc
            have h2 := ih2 _ _ hr (fun g hg => hf g (List.mem_cons_of_mem _ hg))
            have e : (cs.drop off).take (a ++ ls).length = (cs.drop off).take a.length ++ (cs.drop (off + a.length)).take ls.length := by
              rw [List.length_append, List.take_add, List.drop_drop]
            rw [e]
            exact fitsAll_append h1 h2
        · rw [if_neg hc] at h; simp at h
      · simp [ho] at h
theorem flatT_fits (n : Nat) : ∀ (fuel : Nat) t ks cs x, flatT P n t = some ks → DataW.trod enc P w base spare held fuel t cs = some x → P.cellsOf t = ks.length → fitsAll ks cs := by
  have hone : ∀ n fuel t ks cs x, flatT P n t = some ks → DataW.trod enc P w base spare held fuel t cs = some x → ((∃ fs, P.underlying t = some (.struct fs)) ∨ (∃ m e, P.underlying t = some (.array m e)) → P.cellsOf t = ks.length) → fitsAll ks cs := by
    intro n
    induction n with
    | zero => intro fuel t ks cs x h; simp [flatT] at h
    | succ n ih =>
      intro fuel t ks cs x h ht hc
      unfold flatT at h
      cases hu : P.underlying t with
      | none => rw [hu] at h; simp at h
      | some u =>
        rw [hu] at h
        cases u <;> simp only [Option.some.injEq, reduceCtorEq] at h
        case bool =>
          subst h
          obtain ⟨b, rfl, _⟩ := DataW.trod_bool hu ht
          exact ⟨⟨b, rfl⟩, trivial⟩
        case int k =>
          subst h
          obtain ⟨m, rfl, _, hw⟩ := DataW.trod_int hu ht
          exact ⟨⟨m, rfl, hw⟩, trivial⟩
        case struct fs =>
          obtain ⟨xs, m, _, _, hlen, hxl, hg⟩ := DataW.trod_struct hu ht
          have hcl := hc (.inl ⟨fs, hu⟩)
          have hsub : ∀ t' ks' cs' x', flatT P n t' = some ks' → DataW.trod enc P w base spare held m t' cs' = some x' → P.cellsOf t' = ks'.length → fitsAll ks' cs' := fun t' ks' cs' x' h1 h2 h3 => ih m t' ks' cs' x' h1 h2 (fun _ => h3)
          have h9 := flatFs_fits2 hsub cs fs.toList 0 ks h (fun f hf => by
            obtain ⟨i, hi, he⟩ := List.getElem_of_mem hf
            have hi' : i < fs.size := by simpa using hi
            have hfi : fs[i]? = some f := by rw [Array.getElem?_eq_getElem hi']; simpa using he
            exact ⟨_, (hg i f hfi).trans (List.getElem?_eq_getElem (by omega))⟩)
          rw [List.drop_zero, List.take_of_length_le (by omega)] at h9
          exact h9
        case array m e =>
          obtain ⟨xs, q, _, _, hlen, hxl, hg⟩ := DataW.trod_array hu ht
          have hcl := hc (.inr ⟨m, e, hu⟩)
          cases hF : flatT P n e with
          | none => rw [hF] at h; simp at h
          | some a =>
            rw [hF] at h
            dsimp only at h
            by_cases hce : P.cellsOf e = a.length
            · rw [if_pos hce] at h
              simp only [Option.some.injEq] at h
              subst h
              have h9 := fitsAll_rep (a := a) (cs := cs) m 0 (fun i hi => by
                rw [Nat.zero_add]
                have q1 := hg i hi
                rw [hce] at q1
                rw [List.getElem?_eq_getElem (by omega)] at q1
                exact ih q e a _ _ hF q1 (fun _ => hce))
              have hl : (List.replicate m a).flatten.length = m * a.length := by simp
              rw [hl] at hcl
              rw [Nat.zero_mul, List.drop_zero, List.take_of_length_le (by omega)] at h9
              exact h9
            · rw [if_neg hce] at h; simp at h
  exact fun fuel t ks cs x h ht hc => hone n fuel t ks cs x h ht (fun _ => hc)
end
end Go.Proofs.Ytpfhplhamnohjaa.Flat
namespace Go.Proofs.Ytpfhplhamnohjaa
set_option maxHeartbeats 25600000
set_option maxRecDepth 100000
open Go.ChangeShapes Go.WideShapes Go.RowKit Go.Proofs.Ytpfhplhamnohjaa.Flat

theorem bnd_u32 {n : Int} (h : (Lit.int .u32 n).wf = true) : 0 ≤ n ∧ n ≤ 4294967295 := by
  simp [Lit.wf, IntKind.min, IntKind.max, IntKind.signed, IntKind.bits] at h
  omega
theorem fits_rep {k : IntKind} : ∀ (n : Nat) (cs : List Value), fitsAll (List.replicate n (some k)) cs → ∀ i, i < n → ∃ m, cs[i]? = some (.int k m) ∧ (Lit.int k m).wf = true
  | 0, _, _, i, hi => by omega
  | n + 1, cs, h, i, hi => by
    cases cs with
    | nil => simp [List.replicate_succ, fitsAll] at h
    | cons c cs =>
      rw [List.replicate_succ] at h
      obtain ⟨⟨m, rfl, hw⟩, h2⟩ := h
      cases i with
      | zero => exact ⟨m, rfl, hw⟩
      | succ i =>
        rw [List.getElem?_cons_succ]
        exact fits_rep n cs h2 i (by omega)
def intAt (cs : List Value) (i : Nat) : Int := match cs[i]? with
  | some (.int _ n) => n
  | _ => 0
theorem sta_of {cs : List Value} (h : fitsAll (List.replicate 30 (some .u32)) cs) : ∃ s : Sta, cs = staCells s ∧ OkS s := by
  have hl : cs.length = 30 := by have := fitsAll_len h; simpa using this
  refine ⟨intAt cs, ?_, fun i hi => ?_⟩
  · refine List.ext_getElem? fun i => ?_
    by_cases hi : i < 30
    · obtain ⟨m, hm, _⟩ := fits_rep 30 cs h i hi
      rw [staCells_get _ _ hi, hm]
      simp [intAt, hm]
    · rw [List.getElem?_eq_none (by omega), List.getElem?_eq_none (by rw [staCells_len]; omega)]
  · obtain ⟨m, hm, hw⟩ := fits_rep 30 cs h i hi
    have := bnd_u32 hw
    simp only [intAt, hm]
    omega
theorem flat_sta : flatT Try.prog 5 26 = some (List.replicate 30 (some .u32)) := by kernel_rfl
theorem cells_sta : Try.prog.cellsOf 26 = (List.replicate 30 (some IntKind.u32)).length := by kernel_rfl
section
variable {H : Type} {enc : TypeId × Value → H} {W : World} {base : Nat} {spare : Nat → Bool} {held : Bool} {r : Reach} {b0 : Nat} {v : Value} {d : DataW H} {p : List MemPlace}
theorem open_sta (hv : Value.okWide Try.prog W r b0 26 v) (h : DataW.Trod enc Try.prog W base spare held 26 v d p) : ∃ s : Sta, v = .agg (staCells s).toArray ∧ OkS s := by
  obtain ⟨cs, rfl, _⟩ := okWide_struct Try.underlying26 hv
  obtain ⟨fuel, hf⟩ := h
  obtain ⟨s, hb, ho⟩ := sta_of (flatT_fits (P := Try.prog) 5 fuel 26 _ _ _ flat_sta hf cells_sta)
  refine ⟨s, ?_, ho⟩
  obtain ⟨l⟩ := cs
  simp only [Value.cells] at hb
  rw [hb]
end
end Go.Proofs.Ytpfhplhamnohjaa
