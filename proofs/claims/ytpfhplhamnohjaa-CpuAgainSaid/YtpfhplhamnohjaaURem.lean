/- How an argument that is a slice of flat elements reads: each element's cells lie one behind the other; blocks, ints. -/
import Derived.Test.YtpfhplhamnohjaaG18
import Derived.Test.YtpfhplhamnohjaaG16
import Derived.SizedLaws
namespace Go.Proofs.Ytpfhplhamnohjaa
set_option maxHeartbeats 25600000
set_option maxRecDepth 100000
open Go.ChangeShapes Go.WideShapes Go.RowKit Go.Deep Go.Proofs.Ytpfhplhamnohjaa.Flat

theorem choose_lt2 {α : Type} [Inhabited α] {n : Nat} {p : Nat → α → Prop} (h : ∀ i, i < n → ∃ o, p i o) : ∃ O : Nat → α, ∀ i, i < n → p i (O i) := by
  classical
  exact ⟨fun i => if hi : i < n then Classical.choose (h i hi) else default, fun i hi => by dsimp only; rw [dif_pos hi]; exact Classical.choose_spec (h i hi)⟩
section
variable {H : Type} {enc : TypeId × Value → H} {W : World} {spare : Nat → Bool} {held : Bool} {r : Reach} {b0 : Nat} {v : Value} {d : DataW H} {p : List MemPlace}
theorem open_rows {t e : TypeId} {K : List (Option IntKind)} (hu : Try.prog.underlying t = some (.slice e)) (hfl : flatT Try.prog 5 e = some K) (hC : Try.prog.cellsOf e = K.length) (hp : 0 < K.length)
    (hv : Value.okWide Try.prog W r b0 t v) (h : DataW.Trod enc Try.prog W 0 spare held t v d p) :
    ∃ (q : Option Addr) (len cap : Nat) (R : Nat → List Value), v = .slice q len cap ∧ (q = none → len = 0 ∧ cap = 0) ∧ (len = 0 ∨ ∃ es sp, d = .slice es sp ∧ es.length = len) ∧
      ∀ i, i < len → fitsAll K (R i) ∧ ∃ g k0, q = some ⟨g, k0, none⟩ ∧ g < W.heap.size ∧ ∀ j u, (R i)[j]? = some u → W.cell? ⟨g, k0 + i * K.length + j, none⟩ = some u := by
  obtain ⟨q, len, cap, rfl⟩ := okWide_slice hu hv
  obtain ⟨fuel, hf⟩ := h
  rcases open_slice hu hf with ⟨hc, _⟩ | ⟨a, len', cap', m, n, D, Pl, hc, hb, hl, hm, hmm, hx, hall⟩
  · simp only [Value.cells, List.cons.injEq, Value.slice.injEq, and_true] at hc
    obtain ⟨rfl, rfl, rfl⟩ := hc
    exact ⟨none, 0, 0, fun _ => [], rfl, fun _ => ⟨rfl, rfl⟩, .inl rfl, fun i hi => by omega⟩
  · simp only [Value.cells, List.cons.injEq, Value.slice.injEq, and_true] at hc
    obtain ⟨rfl, rfl, rfl⟩ := hc
    have hlm : len ≤ m := by rw [hmm]; split <;> omega
    have hd : ∃ es sp, d = .slice es sp ∧ es.length = len := by
      obtain ⟨rfl, _⟩ := Prod.mk.inj hx
      exact ⟨_, _, rfl, by simp⟩
    by_cases h0 : len = 0
    · subst h0
      exact ⟨some a, 0, cap, fun _ => [], rfl, (fun e => by cases e), .inl rfl, fun i hi => by omega⟩
    have first : ∃ u, W.cell? a = some u := by
      obtain ⟨cs0, g1, g2⟩ := hall 0 (by omega)
      rw [hC] at g1
      obtain ⟨_, hlen0, hcell0⟩ := World.cells?_some g1
      have hq := hcell0 0 hp
      simp only [Nat.zero_mul, Addr.add, if_pos] at hq
      rw [List.getElem?_eq_getElem (by rw [hlen0]; exact hp)] at hq
      exact ⟨_, hq⟩
    have hsp : a.spot = none := by
      obtain ⟨u, hu'⟩ := first
      unfold World.cell? at hu'
      split at hu'
      · split at hu'
        · cases hu'
        · rename_i hh; simpa using hh
      · cases hu'
    obtain ⟨ab, ao, sp⟩ := a
    simp only at hsp
    subst hsp
    have hbl : ab < W.heap.size := by
      obtain ⟨u, hu'⟩ := first
      have := World.block_lt_of_cell? W _ hu'
      exact this
    have hadd : ∀ i j, ((⟨ab, ao, none⟩ : Addr).add (i * K.length)).add j = ⟨ab, ao + i * K.length + j, none⟩ := by
      intro i j
      unfold Addr.add
      by_cases e : i * K.length = 0 <;> by_cases f : j = 0 <;> simp [e, f]
    have each : ∀ i, i < len → ∃ R : List Value, fitsAll K R ∧ ∀ j u, R[j]? = some u → W.cell? ⟨ab, ao + i * K.length + j, none⟩ = some u := by
      intro i hi
      obtain ⟨cs', h1, h2⟩ := hall i (by omega)
      rw [hC] at h1
      obtain ⟨_, hlen, hcell⟩ := World.cells?_some h1
      refine ⟨cs', flatT_fits (P := Try.prog) 5 n e K _ _ hfl h2 hC, fun j u hj => ?_⟩
      have hjl : j < K.length := by have := (List.getElem?_eq_some_iff.1 hj).1; omega
      rw [← hadd]
      exact (hcell j hjl).trans hj
    obtain ⟨R, hR⟩ := choose_lt2 each
    exact ⟨some ⟨ab, ao, none⟩, len, cap, R, rfl, (fun e => by cases e), .inr hd, fun i hi => ⟨(hR i hi).1, ab, ao, rfl, hbl, (hR i hi).2⟩⟩
theorem adda (g k0 j : Nat) : (⟨g, k0, none⟩ : Addr).add j = ⟨g, k0 + j, none⟩ := by
  unfold Addr.add
  by_cases e : j = 0 <;> simp [e]
theorem open_arg {α : Type} [Inhabited α] {f : α → List Value} {Ok : α → Prop} {t e : TypeId} {K : List (Option IntKind)} (hu : Try.prog.underlying t = some (.slice e)) (hfl : flatT Try.prog 5 e = some K) (hC : Try.prog.cellsOf e = K.length) (hp : 0 < K.length)
    (hk : ∀ x, (f x).length = K.length) (of : ∀ cs, fitsAll K cs → ∃ x, Ok x ∧ cs = f x) (hv : Value.okWide Try.prog W r b0 t v) (h : DataW.Trod enc Try.prog W 0 spare held t v d p) :
    ∃ xs : List α, ArgRow f W v xs ∧ (∀ x ∈ xs, Ok x) ∧ (xs.length = 0 ∨ ∃ es sp, d = .slice es sp ∧ es.length = xs.length) := by
  obtain ⟨q, len, cap, R, rfl, hz, hd, hR⟩ := open_rows hu hfl hC hp hv h
  have each : ∀ i, i < len → ∃ x : α, Ok x ∧ R i = f x := fun i hi => of _ (hR i hi).1
  obtain ⟨O, hO⟩ := choose_lt2 each
  have hlen : ((List.range len).map O).length = len := by simp
  refine ⟨(List.range len).map O, ?_, ?_, by rw [hlen]; exact hd⟩
  · cases q with
    | none =>
      obtain ⟨rfl, rfl⟩ := hz rfl
      exact .inl ⟨rfl, rfl⟩
    | some ad =>
      refine .inr ⟨ad, cap, by rw [hlen], fun j y hy => ?_⟩
      have hj : j < len * K.length := by
        have := (List.getElem?_eq_some_iff.1 hy).1
        rw [flat_len f K.length hk, hlen] at this
        exact this
      have hi : j / K.length < len := Nat.div_lt_of_lt_mul (by rw [Nat.mul_comm]; exact hj)
      have hr : j % K.length < K.length := Nat.mod_lt _ hp
      have e : j / K.length * K.length + j % K.length = j := by rw [Nat.mul_comm]; exact Nat.div_add_mod _ _
      have fa := flat_at f K.length hk ((List.range len).map O) (j / K.length) (j % K.length) (O (j / K.length)) (by simp [hi]) hr
      rw [e, hy, ← (hO _ hi).2] at fa
      obtain ⟨_, g, k0, hq, _, hc⟩ := hR _ hi
      have z := hc _ y fa.symm
      rw [Nat.add_assoc, e] at z
      rw [Option.some.inj hq, adda]
      exact z
  · intro x hx
    obtain ⟨i, hi, rfl⟩ := List.mem_map.1 hx
    exact (hO i (List.mem_range.1 hi)).1
theorem flat_put : flatT Try.prog 5 69 = some [some .u32, some .u32] := by kernel_rfl
theorem flat_hol : flatT Try.prog 5 179 = some [some .u32, some .u32, some .i64, some .i64, none] := by kernel_rfl
theorem cells_put : Try.prog.cellsOf 69 = 2 := by kernel_rfl
theorem cells_hol : Try.prog.cellsOf 179 = 5 := by kernel_rfl
theorem of_put (cs : List Value) (h : fitsAll [some .u32, some .u32] cs) : ∃ x : Int × Int, ((0 ≤ x.1 ∧ x.1 < 4294967296) ∧ (0 ≤ x.2 ∧ x.2 < 4294967296)) ∧ cs = putC x := by
  have hl := fitsAll_len h
  match cs, hl with
  | [u0, u1], _ =>
    obtain ⟨⟨m0, rfl, g0⟩, ⟨m1, rfl, g1⟩, _⟩ := h
    have q0 := bnd_u32 g0
    have q1 := bnd_u32 g1
    exact ⟨(m0, m1), ⟨⟨q0.1, by dsimp only; omega⟩, ⟨q1.1, by dsimp only; omega⟩⟩, rfl⟩
theorem of_hol (cs : List Value) (h : fitsAll [some .u32, some .u32, some .i64, some .i64, none] cs) : ∃ x : Hol, ((0 ≤ x.lo ∧ x.lo < 4294967296) ∧ (0 ≤ x.hi ∧ x.hi < 4294967296)) ∧ cs = holC x := by
  have hl := fitsAll_len h
  match cs, hl with
  | [u0, u1, u2, u3, u4], _ =>
    obtain ⟨⟨m0, rfl, g0⟩, ⟨m1, rfl, g1⟩, ⟨m2, rfl, g2⟩, ⟨m3, rfl, g3⟩, ⟨m4, rfl⟩, _⟩ := h
    have q0 := bnd_u32 g0
    have q1 := bnd_u32 g1
    exact ⟨⟨m0, m1, m2, m3, m4⟩, ⟨⟨q0.1, by dsimp only; omega⟩, ⟨q1.1, by dsimp only; omega⟩⟩, rfl⟩
instance : Inhabited Hol := ⟨⟨0, 0, 0, 0, false⟩⟩
theorem open_puts (hv : Value.okWide Try.prog W r b0 27 v) (h : DataW.Trod enc Try.prog W 0 spare held 27 v d p) :
    ∃ xs : List (Int × Int), ArgRow putC W v xs ∧ (∀ x ∈ xs, (0 ≤ x.1 ∧ x.1 < 4294967296) ∧ (0 ≤ x.2 ∧ x.2 < 4294967296)) ∧ (xs.length = 0 ∨ ∃ es sp, d = .slice es sp ∧ es.length = xs.length) :=
  open_arg Try.underlying27 flat_put cells_put (by decide) putC_len of_put hv h
theorem open_hols (hv : Value.okWide Try.prog W r b0 28 v) (h : DataW.Trod enc Try.prog W 0 spare held 28 v d p) :
    ∃ xs : List Hol, ArgRow holC W v xs ∧ (∀ x ∈ xs, (0 ≤ x.lo ∧ x.lo < 4294967296) ∧ (0 ≤ x.hi ∧ x.hi < 4294967296)) ∧ (xs.length = 0 ∨ ∃ es sp, d = .slice es sp ∧ es.length = xs.length) :=
  open_arg Try.underlying28 flat_hol cells_hol (by decide) holC_len of_hol hv h
end
end Go.Proofs.Ytpfhplhamnohjaa
