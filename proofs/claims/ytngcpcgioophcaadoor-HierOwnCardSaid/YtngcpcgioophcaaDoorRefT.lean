/- The document's Right, Over and Takes of layer 10 are the same plain functions of a block: out of the printed calls. -/
import Derived.Test.YtngcpcgioophcaaDoorTlbT
import Derived.Test.YtngcpcgioophcaaDoorPTlbTellsx2
namespace Go.Proofs.YtngcpcgioophcaaDoor
open Go.RowKit Go.Proofs.YtngcpcgioophcaaDoor.PTlbTells

theorem ieq (a b : Int) : (a == b) = decide (a = b) := by by_cases h : a = b <;> simp [h]
theorem pow_is : atlasref05_power.f 60 12 = some 4096 ∧ atlasref05_power.f 60 16 = some 65536 ∧ atlasref05_power.f 60 20 = some 1048576 ∧ atlasref05_power.f 60 24 = some 16777216 ∧ atlasref05_power.f 60 32 = some 4294967296 ∧ atlasref05_power.f 60 40 = some 1099511627776 := by
  refine ⟨?_, ?_, ?_, ?_, ?_, ?_⟩ <;> decide +kernel
theorem powk (n : Int) (h : n = 12 ∨ n = 16 ∨ n = 20 ∨ n = 24 ∨ n = 32 ∨ n = 40) : atlasref05_power.f 60 n = some (pw n) := by
  obtain ⟨h1, h2, h3, h4, h5, h6⟩ := pow_is
  rcases h with rfl | rfl | rfl | rfl | rfl | rfl
  · exact h1
  · exact h2
  · exact h3
  · exact h4
  · exact h5
  · exact h6
theorem pshift (s : Int) : atlasref05_Shift.f s = some (shiftOf s) := by
  unfold atlasref05_Shift.f shiftOf
  by_cases h1 : s < 1
  · rw [if_pos h1, if_neg (by omega), if_neg (by omega), if_neg (by omega), if_neg (by omega)]
  · rw [if_neg h1]
    by_cases h4 : s > 4
    · rw [if_pos h4, if_neg (by omega), if_neg (by omega), if_neg (by omega), if_neg (by omega)]
    · rw [if_neg h4]
      obtain rfl | rfl | rfl | rfl : s = 1 ∨ s = 2 ∨ s = 3 ∨ s = 4 := by omega
      all_goals decide +kernel
theorem tmod_pos (a b : Int) (h : 0 ≤ a) : Int.tmod a b = a % b := Int.tmod_eq_emod_of_nonneg h
theorem pplace (v n top : Int) (hv : 0 ≤ v) (hn : n = 12 ∨ n = 16 ∨ n = 20 ∨ n = 24) (ht : top = 32 ∨ top = 40) : atlasref05_place.f 60 v n top = some (placeB v n top) := by
  unfold atlasref05_place.f placeB
  rw [powk n (by omega), powk top (by omega)]
  simp only [Option.bind_some]
  have hp : pw n ≠ 0 := by rcases hn with rfl | rfl | rfl | rfl <;> decide
  rw [if_neg hp, tmod_pos _ _ hv]
  by_cases c : v % pw n = 0
  · rw [if_pos c]; simp [c]
  · rw [if_neg c]; simp [c]
theorem pleaf (ap bits : Int) (ng xn : Bool) : atlasref05_leaf.f ap bits ng xn = some (leafB ap bits) := by
  unfold atlasref05_leaf.f leafB
  by_cases h1 : ap ≥ 0
  · rw [if_pos h1]
    by_cases h2 : ap ≤ 7
    · rw [if_pos h2]; simp [h1, h2]
    · rw [if_neg h2]; simp [h2]
  · rw [if_neg h1]; simp [h1]
theorem pbytes (s : Int) : atlasref05_Bytes.f 60 s = some (bytesOf s) := by
  unfold atlasref05_Bytes.f
  rw [pshift]
  simp only [Option.bind_some]
  by_cases h : 1 ≤ s ∧ s ≤ 4
  · obtain rfl | rfl | rfl | rfl : s = 1 ∨ s = 2 ∨ s = 3 ∨ s = 4 := by omega
    all_goals (rw [if_neg (by decide), powk _ (by decide)]; decide)
  · have e : shiftOf s = 0 := by unfold shiftOf; rw [if_neg (by omega), if_neg (by omega), if_neg (by omega), if_neg (by omega)]
    rw [e, if_pos rfl]
    unfold bytesOf
    rw [if_neg (by omega), if_neg (by omega), if_neg (by omega), if_neg (by omega)]
theorem w64 (n : Int) (h : 0 ≤ n) (h' : n < 18446744073709551616) : IntKind.u64.wrap n = n := by rw [IntKind.wrap_u64]; omega
theorem ptrans (b : Blk) (hb : b.Ok) : atlasref05_Right.f 61 b.size b.va b.pa b.dom b.ap b.bits b.ng b.xn = some (transB b) := by
  have a1 := hb.va0
  have a2 := hb.va1
  have a3 := hb.pa0
  obtain ⟨asid, size, va, pa, dom, ap, bits, ng, xn⟩ := b
  dsimp only at *
  unfold atlasref05_Right.f transB
  have jt : ∀ x, atlasref05_Right.j0 61 x true size va pa dom ap bits ng xn = some false := fun x => by simp [atlasref05_Right.j0]
  rw [pshift]
  simp only [Option.bind_some, w64 va a1 (by omega), pleaf, jt]
  by_cases h : 1 ≤ size ∧ size ≤ 4
  · obtain ⟨h1, h4⟩ := h
    have hs := shift_is size h1 h4
    have hz : sizedB size = true := by simp [sizedB]; omega
    rw [if_neg (by omega)]
    have pm := atlasref05_place.mono
    have p1 : ∀ v top, 0 ≤ v → (top = 32 ∨ top = 40) → atlasref05_place.f 61 v (shiftOf size) top = some (placeB v (shiftOf size) top) := fun v top hv ht => atlasref05_place.mono _ _ _ _ _ (pplace v _ top hv hs ht)
    rw [p1 va 32 a1 (.inl rfl)]
    simp only [Option.bind_some, hz, Bool.true_and]
    cases hp : placeB va (shiftOf size) 32
    · rw [if_neg (by decide)]; simp
    · rw [if_pos rfl]
      by_cases hl : leafB ap bits = true
      · rw [if_pos hl]
        by_cases hd : dom < 0
        · rw [if_pos hd]
          have : domB dom = false := by simp [domB]; omega
          simp [this]
        · rw [if_neg hd]
          by_cases hd2 : dom > 15
          · have : domB dom = false := by simp [domB]; omega
            have e : decide (dom > 15) = true := decide_eq_true hd2
            rw [e, jt]; simp [this]
          · have : domB dom = true := by simp [domB]; omega
            have e : decide (dom > 15) = false := decide_eq_false hd2
            rw [e]
            simp only [atlasref05_Right.j0]
            rw [if_neg (by decide), pplace pa (shiftOf size) 40 a3 hs (.inr rfl), pplace pa (shiftOf size) 32 a3 hs (.inl rfl)]
            simp only [Option.bind_some, this, blockB, hl]
            by_cases h44 : size = 4
            · subst h44
              rw [if_pos rfl, if_pos rfl]
              generalize placeB pa (shiftOf 4) 40 = q
              cases q <;> by_cases hdz : dom = 0 <;> simp [hdz]
            · rw [if_neg h44]; simp [h44]
      · rw [if_neg hl]
        simp [blockB, hl]
  · have e : shiftOf size = 0 := by unfold shiftOf; rw [if_neg (by omega), if_neg (by omega), if_neg (by omega), if_neg (by omega)]
    have hz : sizedB size = false := by simp [sizedB]; omega
    rw [e, if_pos rfl, hz]; simp
theorem pright (b : Blk) (hb : b.Ok) : atlasref10_Right.f 61 b.asid b.size b.va b.pa b.dom b.ap b.bits b.ng b.xn = some (rightB b) := by
  unfold atlasref10_Right.f rightB
  rw [ptrans b hb]
  simp only [Option.bind_some]
  cases transB b <;> cases b.ng <;> by_cases h : 0 ≤ b.asid <;> simp [h, ieq]
theorem pcovers (b : Blk) (va : Int) : atlasref10_lies.f 60 b.asid b.size b.va b.pa b.dom b.ap b.bits b.ng b.xn va = some (coversB b.va b.size va) := by
  unfold atlasref10_lies.f coversB
  rw [pbytes]
  by_cases h : va ≥ b.va
  · rw [if_pos h]; simp [h]
  · rw [if_neg h]; simp [h]
theorem pover (b : Blk) (hb : b.Ok) (va asid : Int) : atlasref10_Over.f 61 b.asid b.size b.va b.pa b.dom b.ap b.bits b.ng b.xn va asid = some (overB b va asid) := by
  unfold atlasref10_Over.f overB
  rw [pright b hb, atlasref10_lies.mono _ _ _ _ _ _ _ _ _ _ _ _ (pcovers b va)]
  simp only [Option.bind_some]
  cases rightB b <;> cases coversB b.va b.size va <;> simp
  by_cases h : b.asid = asid <;> simp [h, ieq]
theorem pdrop (d : Tlbi) : atlasref10_Dropping.f d.kind d.va d.asid = some (dropB d) := by
  unfold atlasref10_Dropping.f dropB
  by_cases h1 : d.kind = 1
  · rw [if_pos h1, if_pos h1]
    by_cases h : d.va = 0 <;> simp [h, ieq]
  · rw [if_neg h1, if_neg h1]
    by_cases h2 : d.kind = 2
    · rw [if_pos h2, if_pos h2]
      by_cases h : 0 ≤ d.asid <;> simp [h]
    · rw [if_neg h2, if_neg h2]
      by_cases h3 : d.kind = 3
      · rw [if_pos h3, if_pos h3]
        by_cases h : d.va = 0 <;> by_cases h' : 0 ≤ d.asid <;> simp [h, h']
      · rw [if_neg h3, if_neg h3]
        by_cases h4 : d.kind = 4
        · rw [if_pos h4, if_pos h4]; simp [ieq]
        · rw [if_neg h4, if_neg h4]
theorem ptakes (d : Tlbi) (b : Blk) (hb : b.Ok) : atlasref10_Takes.f 62 d.kind d.va d.asid b.asid b.size b.va b.pa b.dom b.ap b.bits b.ng b.xn = some (takesB d b) := by
  unfold atlasref10_Takes.f takesB
  rw [pdrop, atlasref10_Right.mono _ _ _ _ _ _ _ _ _ _ _ (pright b hb)]
  simp only [Option.bind_some, atlasref10_Takes.j0, pover b hb, atlasref10_lies.mono _ _ _ _ _ _ _ _ _ _ _ _ (pcovers b d.va)]
  cases dropB d <;> cases rightB b <;> simp
  by_cases h1 : d.kind = 1
  · simp [h1]
  · by_cases h2 : d.kind = 2
    · simp [h2]
    · by_cases h3 : d.kind = 3 <;> simp [h1, h2, h3, ieq]
theorem ref_Right_is (b : Blk) (hb : b.Ok) (w : World) : Calls Tryd.prog 19 #[(.agg #[.int .i64 b.asid, .int .i64 b.size, .int .u32 b.va, .int .u64 b.pa, .int .i64 b.dom, .int .i64 b.ap, .int .u32 b.bits, .bool b.ng, .bool b.xn])] w fun e w' => e = .returned (.bool (rightB b)) ∧ Below w.heap.size w w' :=
  atlasref10_Right.calls 61 _ _ _ _ _ _ _ _ _ _ w (pright b hb)
theorem ref_Over_is (b : Blk) (hb : b.Ok) (va asid : Int) (w : World) : Calls Tryd.prog 21 #[(.agg #[.int .i64 b.asid, .int .i64 b.size, .int .u32 b.va, .int .u64 b.pa, .int .i64 b.dom, .int .i64 b.ap, .int .u32 b.bits, .bool b.ng, .bool b.xn]), .int .u32 va, .int .i64 asid] w fun e w' => e = .returned (.bool (overB b va asid)) ∧ Below w.heap.size w w' :=
  atlasref10_Over.calls 61 _ _ _ _ _ _ _ _ _ _ _ _ w (pover b hb va asid)
theorem ref_Takes_is (d : Tlbi) (b : Blk) (hb : b.Ok) (w : World) : Calls Tryd.prog 23 #[(.agg #[.int .i64 d.kind, .int .u32 d.va, .int .i64 d.asid]), (.agg #[.int .i64 b.asid, .int .i64 b.size, .int .u32 b.va, .int .u64 b.pa, .int .i64 b.dom, .int .i64 b.ap, .int .u32 b.bits, .bool b.ng, .bool b.xn])] w fun e w' => e = .returned (.bool (takesB d b)) ∧ Below w.heap.size w w' :=
  atlasref10_Takes.calls 62 _ _ _ _ _ _ _ _ _ _ _ _ _ w (ptakes d b hb)
end Go.Proofs.YtngcpcgioophcaaDoor
