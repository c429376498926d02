/- The law Cp15Seen of layer 8, walked. -/
import Derived.Test.YtakihcdolpocjaaDoorCDoes2
import Derived.Test.YtakihcdolpocjaaDoorCKept
namespace Go.Proofs.YtakihcdolpocjaaDoor
open Go.RowKit

theorem Kept.set_ {rs : List Int} (h : Kept rs) (hl : rs.length = 13) (i : Nat) (hi : i < 13) (v : Int) (v0 : 0 ≤ v) (v1 : v ≤ 4294967295) : Kept (rs.set i (keep i v)) := by
  intro k hk
  rw [rg_set rs i k _ (by omega)]
  split
  · rename_i e; subst e; exact keep_idem i hi v v0 v1
  · exact h k hk
theorem writeR_kept {rs : List Int} (h : Kept rs) (hl : rs.length = 13) (t : Tup) (priv : Bool) (v : Int) (v0 : 0 ≤ v) (v1 : v ≤ 4294967295) : Kept (writeR t priv v rs).2.2 := by
  unfold writeR
  cases hr : regOf t with
  | some i =>
    dsimp only
    split
    · exact h.set_ hl i (regOf_lt hr) v v0 v1
    · exact h
  | none =>
    dsimp only
    split
    · exact h
    · split
      · split <;> exact h
      · split
        · split <;> exact h
        · exact h
theorem doesR_ok (o : Op8) (ho : o.Ok) {rs : List Int} (h : RegsOk rs) (hk : Kept rs) : RegsOk (doesR o rs).2.2 ∧ Kept (doesR o rs).2.2 := by
  unfold doesR
  split
  · exact ⟨h, hk⟩
  · split
    · exact ⟨writeR_ok h _ _ _, writeR_kept hk h.1 _ _ _ ho.w0 ho.w1⟩
    · split
      · split
        · exact ⟨h.set_ _ (by omega) _, hk.set_ h.1 _ (by omega) _ ho.w0 ho.w1⟩
        · exact ⟨h, hk⟩
      · exact ⟨h, hk⟩
/-- the second file when the registers from 13 - n on have been put -/
def seenTo (rs : List Int) (word : Int) (n : Nat) : List Int := (List.range 13).map (fun i => if 13 ≤ i + n then (if 5 ≤ i ∧ i ≤ 9 then keep i word else rg rs i) else rg startL i)
theorem seenTo_zero (rs : List Int) (word : Int) : seenTo rs word 0 = startL := rfl
theorem seenTo_next (rs : List Int) (word : Int) (n : Nat) (hn : n < 13) (hk : Kept rs) : seenTo rs word (n + 1) = (seenTo rs word n).set (12 - n) (keep (12 - n) (if 5 ≤ 12 - n ∧ 12 - n ≤ 9 then word else rg rs (12 - n))) := by
  have e : keep (12 - n) (if 5 ≤ 12 - n ∧ 12 - n ≤ 9 then word else rg rs (12 - n)) = (if 5 ≤ 12 - n ∧ 12 - n ≤ 9 then keep (12 - n) word else rg rs (12 - n)) := by
    split
    · rfl
    · exact hk _ (by omega)
  rw [e]
  obtain rfl | rfl | rfl | rfl | rfl | rfl | rfl | rfl | rfl | rfl | rfl | rfl | rfl : n = 0 ∨ n = 1 ∨ n = 2 ∨ n = 3 ∨ n = 4 ∨ n = 5 ∨ n = 6 ∨ n = 7 ∨ n = 8 ∨ n = 9 ∨ n = 10 ∨ n = 11 ∨ n = 12 := by omega
  all_goals rfl
theorem seenTo_ctx (rs : List Int) (word : Int) : ctxA (seenTo rs word 13) = ctxA rs := rfl
theorem seenTo_ok (rs : List Int) (word : Int) (h : RegsOk rs) : RegsOk (seenTo rs word 13) := by
  refine ⟨rfl, fun k hk => ?_⟩
  have e : rg (seenTo rs word 13) k = if 5 ≤ k ∧ k ≤ 9 then keep k word else rg rs k := by
    obtain rfl | rfl | rfl | rfl | rfl | rfl | rfl | rfl | rfl | rfl | rfl | rfl | rfl : k = 0 ∨ k = 1 ∨ k = 2 ∨ k = 3 ∨ k = 4 ∨ k = 5 ∨ k = 6 ∨ k = 7 ∨ k = 8 ∨ k = 9 ∨ k = 10 ∨ k = 11 ∨ k = 12 := by omega
    all_goals rfl
  rw [e]
  split
  · exact keep_ok k word
  · exact h.2 k hk
end Go.Proofs.YtakihcdolpocjaaDoor
