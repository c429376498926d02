/- The program's Pack over plain lists is packL: each loop of the printed text, by induction on what is left. -/
import Derived.Test.YtakihcdolpocjaaPackWalkA
import Derived.Test.YtakihcdolpocjaaPackLaw
namespace Go.Proofs.Ytakihcdolpocjaa.PSnapPacksProg
open Go.RowKit Go.Proofs.Ytakihcdolpocjaa.PSnapPacks Go.Proofs.YtakihcdolpocjaaW.PrintWords Go.Proofs.YtakihcdolpocjaaW.PrintLast Go.Proofs.Ytakihcdolpocjaa.PackLaw

theorem wrap_in (n : Int) (h : -9223372036854775808 ≤ n ∧ n ≤ 9223372036854775807) : wrap64 n = n := by unfold wrap64; omega
theorem rd_nat (l : List Int) (n : Nat) : rd l (n : Int) = l.getD n 0 := by unfold rd; simp
theorem rd_zero (l : List Int) : rd l 0 = l.getD 0 0 := rfl

theorem alike_is (l : List Int) (hl : l.length ≤ 140737488351232) (hp : 0 < l.length) (d : Nat) : ∀ (k n : Nat), 1 ≤ n → n ≤ 128 → 128 ≤ n + d → d < k → snap_alike.l0 k l (n : Int) = some ((alk d l n : Nat) : Int) := by
  induction d with
  | zero =>
    intro k n h1 h2 h3 hk
    obtain ⟨k, rfl⟩ : ∃ m, k = m + 1 := ⟨k - 1, by omega⟩
    simp only [snap_alike.l0, alk]
    by_cases c : (n : Int) < (l.length : Int)
    · rw [if_pos c, if_neg (by omega)]
    · rw [if_neg c]
  | succ d ih =>
    intro k n h1 h2 h3 hk
    obtain ⟨k, rfl⟩ : ∃ m, k = m + 1 := ⟨k - 1, by omega⟩
    simp only [snap_alike.l0, alk]
    by_cases c : (n : Int) < (l.length : Int)
    · rw [if_pos c]
      by_cases c2 : (n : Int) < 128
      · rw [if_pos c2, if_pos (by omega), if_pos (by omega), rd_nat, rd_zero]
        by_cases c3 : l.getD n 0 = l.getD 0 0
        · rw [if_pos c3, if_pos ⟨by omega, by omega, c3⟩, wrap_in _ (by omega)]
          exact ih k (n + 1) (by omega) (by omega) (by omega) (by omega)
        · rw [if_neg c3, if_neg (fun x => c3 x.2.2)]
      · rw [if_neg c2, if_neg (by omega)]
    · rw [if_neg c, if_neg (by omega)]
theorem run_is (l : List Int) (hl : l.length ≤ 140737488351232) (hp : 0 < l.length) (k : Nat) (hk : 128 ≤ k) : snap_alike.f k l = some ((run l : Nat) : Int) := by
  unfold snap_alike.f run
  exact alike_is l hl hp 127 k 1 (by omega) (by omega) (by omega) (by omega)

/-- Both loops: from what is left, with enough rounds. 'N': what what was packed and what is still to be packed may come to. -/
theorem pack_is (m : Nat) : (∀ (k : Nat) (l out : List Int), 2 * l.length + 1 ≤ m → m + 300 ≤ k → out.length + 2 * l.length < 140737488351232 → snap_Pack.l0 k l out = some (out ++ packL l.length l)) ∧
    (∀ (k n d : Nat) (l out : List Int), l ≠ [] → run l < 3 → 1 ≤ n → n ≤ 128 → n ≤ l.length → 128 ≤ n + d → litLen l = lit d l n → 2 * l.length + 1 ≤ m + n → m + 300 ≤ k → out.length + 2 * l.length < 140737488351232 →
      snap_Pack.l1 k l out (n : Int) = some (out ++ packL l.length l)) := by
  induction m with
  | zero =>
    refine ⟨fun k l out h1 => absurd h1 (by omega), fun k n d l out h0 h1 h2 h3 h4 h5 h6 h7 => ?_⟩
    have := List.length_pos_iff.2 h0
    omega
  | succ m ih =>
    refine ⟨?_, ?_⟩
    · intro k l out h1 hk hN
      obtain ⟨k, rfl⟩ : ∃ m, k = m + 1 := ⟨k - 1, by omega⟩
      simp only [snap_Pack.l0]
      by_cases e : l = []
      · subst e
        rw [if_neg (by simp)]; simp [packL]
      · have hp := List.length_pos_iff.2 e
        have r1 := run_pos l
        have r3 := run_le e
        rw [if_pos (by omega), run_is l (by omega) hp k (by omega)]
        simp only [Option.bind_some]
        by_cases c : 3 ≤ run l
        · rw [if_pos (by omega), if_pos (by omega), if_pos (by simp; omega), if_pos (by omega), if_pos (by omega), Int.toNat_natCast]
          rw [ih.1 k (l.drop (run l)) _ (by simp; omega) (by omega) (by simp; omega)]
          have e1 : (wrap64 (257 - (run l : Int))) % 256 = 257 - (run l : Int) := by rw [wrap_in _ (by omega)]; omega
          obtain ⟨f, hf⟩ : ∃ f, l.length = f + 1 := ⟨l.length - 1, by omega⟩
          rw [e1, rd_zero]
          conv => rhs; rw [hf]; unfold packL
          rw [if_neg e, if_pos c, packL_fuel f (l.drop (run l)) _ (by simp; omega) (Nat.le_refl _)]
          simp
        · rw [if_neg (by omega)]
          exact ih.2 k 1 127 l out e (by omega) (by omega) (by omega) (by omega) (by omega) rfl (by omega) (by omega) hN
    · intro k n d l out e hr h1 h2 h3 h4 h5 h6 hk hN
      have hp := List.length_pos_iff.2 e
      obtain ⟨k, rfl⟩ : ∃ m, k = m + 1 := ⟨k - 1, by omega⟩
      obtain ⟨f, hf⟩ : ∃ f, l.length = f + 1 := ⟨l.length - 1, by omega⟩
      -- what a piece of its own of n bytes comes to
      have fin : litLen l = n → snap_Pack.l0 k (l.drop n) (out ++ [(wrap64 ((n : Int) - 1)) % 256] ++ l.take n) = some (out ++ packL l.length l) := by
        intro hq
        rw [ih.1 k (l.drop n) _ (by simp; omega) (by omega) (by simp; omega)]
        have e1 : (wrap64 ((n : Int) - 1)) % 256 = (n : Int) - 1 := by rw [wrap_in _ (by omega)]; omega
        rw [e1]
        conv => rhs; rw [hf]; unfold packL
        rw [if_neg e, if_neg (by omega), hq, packL_fuel f (l.drop n) _ (by simp; omega) (Nat.le_refl _)]
        simp
      simp only [snap_Pack.l1]
      by_cases c : (n : Int) < (l.length : Int)
      · rw [if_pos c]
        by_cases c2 : (n : Int) < 128
        · rw [if_pos c2, if_pos (by omega), if_pos (by omega), Int.toNat_natCast, run_is (l.drop n) (by simp; omega) (by simp; omega) k (by omega)]
          simp only [Option.bind_some]
          obtain ⟨d, rfl⟩ : ∃ q, d = q + 1 := ⟨d - 1, by omega⟩
          by_cases c3 : run (l.drop n) < 3
          · rw [if_pos (by omega), wrap_in _ (by omega)]
            exact ih.2 k (n + 1) d l out e hr (by omega) (by omega) (by omega) (by omega) (by rw [h5]; conv => lhs; unfold lit
                                                                                              rw [if_pos ⟨by omega, by omega, c3⟩]) (by omega) (by omega) hN
          · rw [if_neg (by omega), if_pos (by omega), if_pos (by simp; omega)]
            exact fin (by rw [h5]; unfold lit; rw [if_neg (fun x => c3 x.2.2)])
        · rw [if_neg c2, if_pos (by omega)]
          simp only [Option.bind_some, Int.toNat_natCast]
          rw [if_pos (by omega), if_pos (by omega), if_pos (by simp; omega)]
          exact fin (by rw [h5]; cases d with
                                 | zero => rfl
                                 | succ d => unfold lit; rw [if_neg (by omega)])
      · rw [if_neg c, if_pos (by omega)]
        simp only [Option.bind_some, Int.toNat_natCast]
        rw [if_pos (by omega), if_pos (by omega), if_pos (by simp; omega)]
        exact fin (by rw [h5]; cases d with
                               | zero => rfl
                               | succ d => unfold lit; rw [if_neg (by omega)])
theorem Pack_is (l : List Int) (hl : l.length ≤ 1048576) (k : Nat) (hk : 2 * l.length + 400 ≤ k) : snap_Pack.f k l = some (packL l.length l) := by
  unfold snap_Pack.f
  rw [(pack_is (2 * l.length + 1)).1 k l [] (by omega) (by omega) (by simp; omega)]
  simp
end Go.Proofs.Ytakihcdolpocjaa.PSnapPacksProg
