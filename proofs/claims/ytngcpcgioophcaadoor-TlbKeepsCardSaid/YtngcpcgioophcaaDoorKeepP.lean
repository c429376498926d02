/- Plain words of TlbKeeps: no block twice, each right; what a call turns at each place. No program is walked here. -/
import Derived.Test.YtngcpcgioophcaaDoorMatches
namespace Go.Proofs.YtngcpcgioophcaaDoor

def NoDbl (xs : List Slot) : Prop := ∀ b, (xs.filter (same b)).length ≤ 1
def AllRight (xs : List Slot) : Prop := ∀ s ∈ xs, s.full = true → rightB s.blk = true
theorem filter_set {α : Type} (p : α → Bool) (s : α) : ∀ (xs : List α) (i : Nat), ((xs.set i s).filter p).length ≤ (xs.filter p).length + (if p s = true then 1 else 0) := by
  intro xs
  induction xs with
  | nil => intro i; simp
  | cons x xs ih =>
    intro i
    cases i with
    | zero =>
      simp only [List.set_cons_zero, List.filter_cons]
      cases p s <;> cases p x <;> simp
    | succ i =>
      simp only [List.set_cons_succ, List.filter_cons]
      have := ih i
      cases p x <;> simp <;> omega
theorem NoDbl.set_ {xs : List Slot} (h : NoDbl xs) (i : Nat) (s : Slot) (hs : ∀ b, same b s = true → (xs.filter (same b)).length = 0) : NoDbl (xs.set i s) := by
  intro b
  have h1 := filter_set (same b) s xs i
  have h2 := h b
  have h3 := hs b
  split at h1
  · rename_i hb; have := h3 hb; omega
  · omega
theorem zslot_no (b : Blk) : same b zslot = false := rfl
theorem NoDbl.empty {xs : List Slot} (h : NoDbl xs) (i : Nat) : NoDbl (xs.set i zslot) := h.set_ i zslot (fun b hb => by rw [zslot_no] at hb; cases hb)
theorem find_none {b : Blk} {xs : List Slot} (h : findB b xs = none) : (xs.filter (same b)).length = 0 := by
  unfold findB at h
  rw [List.findIdx?_eq_none_iff] at h
  rw [List.length_eq_zero_iff, List.filter_eq_nil_iff]
  intro s hs
  rw [h s hs]
  decide
theorem same_eq {b c : Blk} {f : Bool} (h : same b ⟨f, c⟩ = true) : c = b ∧ f = true := by
  unfold same at h
  rw [Bool.and_eq_true] at h
  exact ⟨(Blk.eqB_iff _ _).1 h.2, h.1⟩
theorem same_full (b : Blk) : same b ⟨true, b⟩ = true := by unfold same; rw [eqB_self]; rfl
theorem NoDbl.putRow {xs : List Slot} (h : NoDbl xs) (b : Blk) (p : Int) : NoDbl (putRow b xs p) := by
  unfold Go.Proofs.YtngcpcgioophcaaDoor.putRow
  split
  · exact h
  · rename_i hf
    refine h.set_ _ _ (fun c hc => ?_)
    rw [← (same_eq hc).1]
    exact find_none hf
theorem filter_map_le {p q : Slot → Bool} {f : Slot → Slot} (h : ∀ s, q (f s) = true → p s = true) (xs : List Slot) : ((xs.map f).filter q).length ≤ (xs.filter p).length := by
  induction xs with
  | nil => simp
  | cons x xs ih =>
    rw [List.map_cons, List.filter_cons, List.filter_cons]
    have := h x
    cases hq : q (f x) <;> cases hp : p x <;> simp_all <;> omega
theorem NoDbl.dropRow {xs : List Slot} (h : NoDbl xs) (d : Tlbi) : NoDbl (dropRow d xs) := by
  intro b
  refine Nat.le_trans (filter_map_le (fun s hs => ?_) xs) (h b)
  unfold drop1 at hs
  split at hs
  · rw [zslot_no] at hs; cases hs
  · exact hs
theorem newRow_nodbl (n : Nat) : NoDbl (newRow n) := fun b => by
  have : (newRow n).filter (same b) = [] := List.filter_eq_nil_iff.2 (fun s hs => by rw [List.eq_of_mem_replicate hs, zslot_no]; decide)
  rw [this]; decide
theorem newRow_right (n : Nat) : AllRight (newRow n) := fun s hs hf => by rw [List.eq_of_mem_replicate hs] at hf; cases hf
theorem AllRight.set_ {xs : List Slot} (h : AllRight xs) (i : Nat) (s : Slot) (hs : s.full = true → rightB s.blk = true) : AllRight (xs.set i s) := by
  intro t ht hf
  rcases List.mem_or_eq_of_mem_set ht with h1 | h1
  · exact h t h1 hf
  · subst h1; exact hs hf
theorem opRow_nod (o : Op10) {xs : List Slot} (h : NoDbl xs) : NoDbl (opRow o xs) := by
  unfold opRow
  split; · exact h
  split
  · split
    · exact h.putRow _ _
    · exact h
  split
  · split
    · exact h.empty _
    · exact h
  split
  · exact h.dropRow _
  · exact h
theorem opRow_right (o : Op10) {xs : List Slot} (h : AllRight xs) : AllRight (opRow o xs) := by
  unfold opRow
  split; · exact h
  split
  · split
    · rename_i hr
      unfold putRow
      split
      · exact h
      · exact h.set_ _ _ (fun _ => hr)
    · exact h
  split
  · split
    · exact h.set_ _ _ (fun e => by cases e)
    · exact h
  split
  · intro s hs hf
    obtain ⟨t, ht, rfl⟩ := List.mem_map.1 hs
    unfold drop1 at hf ⊢
    split at hf
    · cases hf
    · rename_i hh; rw [if_neg hh]; exact h t ht hf
  · exact h
theorem opsRow_nod (os : List Op10) : ∀ {xs : List Slot}, NoDbl xs → NoDbl (opsRow os xs) := by
  induction os with
  | nil => intro xs h; exact h
  | cons o os ih => intro xs h; exact ih (opRow_nod o h)
theorem opsRow_right (os : List Op10) : ∀ {xs : List Slot}, AllRight xs → AllRight (opsRow os xs) := by
  induction os with
  | nil => intro xs h; exact h
  | cons o os ih => intro xs h; exact ih (opRow_right o h)
/-- how many places a block is in -/
def inN (b : Blk) (xs : List Slot) : Nat := (xs.filter (same b)).length
theorem inN_snoc (b : Blk) (xs : List Slot) (s : Slot) : inN b (xs ++ [s]) = inN b xs + (if same b s = true then 1 else 0) := by
  unfold inN; rw [List.filter_append, List.length_append]; cases h : same b s <;> simp [h]
theorem inN_le (b : Blk) (xs : List Slot) : inN b xs ≤ xs.length := List.length_filter_le _ _
theorem inN_one {xs : List Slot} (h : NoDbl xs) {b : Blk} (hm : (⟨true, b⟩ : Slot) ∈ xs) : inN b xs = 1 := by
  have h1 : inN b xs ≤ 1 := h b
  have h2 : 0 < inN b xs := List.length_pos_of_mem (List.mem_filter.2 ⟨hm, same_full b⟩)
  omega
/-- does a place read the same before and behind -/
def sameS (s t : Slot) : Bool := (s.full == t.full) && (!t.full || s.blk.eqB t.blk)
theorem sameS_self (s : Slot) : sameS s s = true := by unfold sameS; rw [eqB_self]; simp
def turnN (xs ys : List Slot) (k : Nat) : Nat := (((xs.zip ys).take k).filter (fun p => !sameS p.1 p.2)).length
theorem turnN_next {xs ys : List Slot} {k : Nat} {s t : Slot} (h1 : xs[k]? = some s) (h2 : ys[k]? = some t) : turnN xs ys (k + 1) = turnN xs ys k + (if sameS s t = true then 0 else 1) := by
  have hz : (xs.zip ys)[k]? = some (s, t) := by rw [List.getElem?_zip_eq_some]; exact ⟨h1, h2⟩
  unfold turnN
  rw [List.take_add_one, hz, List.filter_append, List.length_append]
  cases h : sameS s t <;> simp [h]
theorem turnN_le (xs ys : List Slot) (k : Nat) : turnN xs ys k ≤ k := Nat.le_trans (List.length_filter_le _ _) (List.length_take_le _ _)
theorem turn_self (xs : List Slot) : ((xs.zip xs).filter (fun p => !sameS p.1 p.2)) = [] := by
  induction xs with
  | nil => rfl
  | cons x xs ih => rw [List.zip_cons_cons, List.filter_cons, if_neg (by simp [sameS_self]), ih]
theorem turn_set (s : Slot) : ∀ (xs : List Slot) (i : Nat), ((xs.zip (xs.set i s)).filter (fun p => !sameS p.1 p.2)).length ≤ 1 := by
  intro xs
  induction xs with
  | nil => intro i; simp
  | cons x xs ih =>
    intro i
    cases i with
    | zero =>
      rw [List.set_cons_zero, List.zip_cons_cons, List.filter_cons, turn_self]
      split <;> simp
    | succ i =>
      rw [List.set_cons_succ, List.zip_cons_cons, List.filter_cons, if_neg (by simp [sameS_self])]
      exact ih i
theorem turn_put (b : Blk) (xs : List Slot) (p : Int) (k : Nat) : turnN xs (putRow b xs p) k ≤ 1 := by
  have h1 : ((xs.zip (putRow b xs p)).filter (fun p => !sameS p.1 p.2)).length ≤ 1 := by
    unfold putRow
    split
    · rw [turn_self]; simp
    · exact turn_set _ _ _
  unfold turnN
  refine Nat.le_trans ?_ h1
  exact ((List.take_sublist k _).filter _).length_le
theorem put_in {b : Blk} {xs : List Slot} {p : Int} (h : NoDbl xs) (hp : 0 < xs.length) : inN b (putRow b xs p) = 1 := by
  refine inN_one (h.putRow b p) ?_
  unfold putRow
  split
  · rename_i i hi
    unfold findB at hi
    obtain ⟨hl, hq, -⟩ := List.findIdx?_eq_some_iff_getElem.1 hi
    have hm := List.getElem_mem hl
    obtain ⟨⟨f, c⟩, hs⟩ : ∃ s : Slot, xs[i] = s := ⟨_, rfl⟩
    rw [hs] at hq hm
    obtain ⟨rfl, rfl⟩ := same_eq hq
    exact hm
  · exact List.mem_set (putI_lt xs p hp) _
/-- what a Put turned -/
theorem put_turn {b : Blk} {xs : List Slot} {p : Int} {k : Nat} {s t : Slot} (h1 : xs[k]? = some s) (h2 : (putRow b xs p)[k]? = some t) (hn : sameS s t = false) : k = putAt b xs p ∧ t = ⟨true, b⟩ ∧ inN b xs = 0 := by
  unfold putRow at h2
  unfold putAt
  split at h2
  · rw [h1] at h2; cases h2; rw [sameS_self] at hn; cases hn
  · rename_i hf
    try rw [hf]
    rw [List.getElem?_set] at h2
    split at h2
    · rename_i he
      split at h2
      · exact ⟨he.symm, (Option.some.inj h2).symm, find_none hf⟩
      · cases h2
    · rw [h1] at h2; cases h2; rw [sameS_self] at hn; cases hn
/-- what an Evict turned -/
theorem evict_turn {n : Int} {xs : List Slot} {k : Nat} {s t : Slot} (h1 : xs[k]? = some s) (h2 : (if 0 ≤ n ∧ n < xs.length then xs.set n.toNat zslot else xs)[k]? = some t) : t.full = (s.full && !decide ((k : Int) = n)) ∧ (t.full = true → sameS s t = true) := by
  have hk : k < xs.length := (List.getElem?_eq_some_iff.1 h1).1
  split at h2
  · rename_i hn
    rw [List.getElem?_set] at h2
    split at h2
    · rename_i he
      have e : (k : Int) = n := by omega
      split at h2
      · cases h2; simp [e, zslot]
      · cases h2
    · rename_i he
      have e : ¬ (k : Int) = n := by omega
      rw [h1] at h2; cases h2
      exact ⟨by simp [e], fun _ => sameS_self _⟩
  · rename_i hn
    have e : ¬ (k : Int) = n := by omega
    rw [h1] at h2; cases h2
    exact ⟨by simp [e], fun _ => sameS_self _⟩
/-- what a Flush turned -/
theorem flush_turn {d : Tlbi} {xs : List Slot} {k : Nat} {s t : Slot} (h1 : xs[k]? = some s) (h2 : (dropRow d xs)[k]? = some t) : t.full = (s.full && !takesB d s.blk) ∧ (t.full = true → sameS s t = true) := by
  unfold dropRow at h2
  rw [List.getElem?_map, h1] at h2
  cases h2
  unfold drop1 hit
  cases h : (s.full && takesB d s.blk)
  · rw [if_neg (by decide)]
    refine ⟨?_, fun _ => sameS_self _⟩
    cases hf : s.full <;> simp_all
  · rw [if_pos rfl]
    rw [Bool.and_eq_true] at h
    simp [h.1, h.2, zslot]
end Go.Proofs.YtngcpcgioophcaaDoor
