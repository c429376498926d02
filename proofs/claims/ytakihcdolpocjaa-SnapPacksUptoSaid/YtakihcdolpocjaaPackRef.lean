/- The document's Pack over plain lists is packL, too. -/
import Derived.Test.YtakihcdolpocjaaPackWalkB
import Derived.Test.YtakihcdolpocjaaPackProgA
namespace Go.Proofs.Ytakihcdolpocjaa.PSnapPacksProg
open Go.RowKit Go.Proofs.Ytakihcdolpocjaa.PSnapPacks Go.Proofs.YtakihcdolpocjaaW.PrintWords Go.Proofs.YtakihcdolpocjaaW.PrintLast Go.Proofs.Ytakihcdolpocjaa.PackLaw

theorem wrap_add (i n : Nat) (h : i + n ≤ 2000000) : wrap64 ((i : Int) + (n : Int)) = ((i + n : Nat) : Int) := by rw [wrap_in _ (by omega)]; omega
theorem wrap_run (r : Nat) (h : r ≤ 128) (h' : 3 ≤ r) : (wrap64 (257 - (r : Int))) % 256 = 257 - (r : Int) := by rw [wrap_in _ (by omega)]; omega
theorem wrap_one (n : Nat) (h : n ≤ 128) (h' : 1 ≤ n) : (wrap64 ((n : Int) - 1)) % 256 = (n : Int) - 1 := by rw [wrap_in _ (by omega)]; omega
theorem wrap_next (n : Nat) (h : n ≤ 128) : wrap64 ((n : Int) + 1) = ((n + 1 : Nat) : Int) := by rw [wrap_in _ (by omega)]; omega
theorem getD_drop (l : List Int) (i n : Nat) : (l.drop i).getD n 0 = l.getD (i + n) 0 := by simp [List.getD_eq_getElem?_getD, List.getElem?_drop]
theorem ralike_is (l : List Int) (hl : l.length ≤ 140737488351232) (i : Nat) (hi : i < l.length) (d : Nat) : ∀ (k n : Nat), 1 ≤ n → n ≤ 128 → 128 ≤ n + d → d < k → atlasref29_alike.l0 k l (i : Int) (n : Int) = some ((alk d (l.drop i) n : Nat) : Int) := by
  induction d with
  | zero =>
    intro k n h1 h2 h3 hk
    obtain ⟨k, rfl⟩ : ∃ m, k = m + 1 := ⟨k - 1, by omega⟩
    simp only [atlasref29_alike.l0, alk]
    rw [wrap_in _ (by omega)]
    by_cases c : (i : Int) + n < (l.length : Int)
    · rw [if_pos c, if_neg (by omega)]
    · rw [if_neg c]
  | succ d ih =>
    intro k n h1 h2 h3 hk
    obtain ⟨k, rfl⟩ : ∃ m, k = m + 1 := ⟨k - 1, by omega⟩
    simp only [atlasref29_alike.l0, alk]
    rw [wrap_in _ (by omega)]
    by_cases c : (i : Int) + n < (l.length : Int)
    · rw [if_pos c]
      by_cases c2 : (n : Int) < 128
      · have e1 : rd l ((i : Int) + n) = (l.drop i).getD n 0 := by rw [getD_drop, ← rd_nat]; congr 1
        have e2 : rd l (i : Int) = (l.drop i).getD 0 0 := by rw [getD_drop, rd_nat]; rfl
        rw [if_pos c2, if_pos (by omega), if_pos (by omega), if_pos (by omega), e1, e2]
        by_cases c3 : (l.drop i).getD n 0 = (l.drop i).getD 0 0
        · rw [if_pos c3, if_pos ⟨by simp; omega, by omega, c3⟩, wrap_in _ (by omega)]
          exact ih k (n + 1) (by omega) (by omega) (by omega) (by omega)
        · rw [if_neg c3, if_neg (fun x => c3 x.2.2)]
      · rw [if_neg c2, if_neg (by omega)]
    · rw [if_neg c, if_neg (by simp; omega)]
theorem rrun_is (l : List Int) (hl : l.length ≤ 140737488351232) (i : Nat) (hi : i < l.length) (k : Nat) (hk : 128 ≤ k) : atlasref29_alike.f k l (i : Int) = some ((run (l.drop i) : Nat) : Int) := by
  unfold atlasref29_alike.f run
  exact ralike_is l hl i hi 127 k 1 (by omega) (by omega) (by omega) (by omega)
theorem rpack_is (l : List Int) (hl : l.length ≤ 1048576) (m : Nat) : (∀ (k i : Nat) (out : List Int), i ≤ l.length → 3 * (l.length - i) + 2 ≤ m → 2 * m + 300 ≤ k → out.length + 2 * (l.length - i) < 140737488355328 → atlasref29_Pack.l0 k l out (i : Int) = some (out ++ packL (l.length - i) (l.drop i))) ∧
    (∀ (k i n d : Nat) (out : List Int), i < l.length → run (l.drop i) < 3 → n ≤ 128 → i + n ≤ l.length → 128 ≤ n + d → (n = 0 ∧ d = 128 ∨ 1 ≤ n ∧ litLen (l.drop i) = lit d (l.drop i) n) → 3 * (l.length - i) + 1 ≤ m + n → 2 * m + 300 ≤ k → out.length + 2 * (l.length - i) < 140737488355328 →
      atlasref29_Pack.l1 k l out (i : Int) (n : Int) = some (out ++ packL (l.length - i) (l.drop i))) := by
  induction m with
  | zero =>
    refine ⟨fun k i out _ h1 => absurd h1 (by omega), fun k i n d out h0 h1 h2 h3 h4 h5 h6 h7 => ?_⟩
    omega
  | succ m ih =>
    refine ⟨?_, ?_⟩
    · intro k i out hi h1 hk hN
      obtain ⟨k, rfl⟩ : ∃ m, k = m + 1 := ⟨k - 1, by omega⟩
      simp only [atlasref29_Pack.l0]
      by_cases hil : i < l.length
      · have hne : l.drop i ≠ [] := by intro e; have := List.drop_eq_nil_iff.1 e; omega
        have r1 := run_pos (l.drop i)
        have r3 := run_le hne
        rw [List.length_drop] at r3
        rw [if_pos (by omega), rrun_is l (by omega) i hil k (by omega)]
        simp only [Option.bind_some]
        by_cases c : 3 ≤ run (l.drop i)
        · have hpk : packL (l.length - i) (l.drop i) = (257 - (run (l.drop i) : Int)) :: (l.drop i).getD 0 0 :: packL (l.length - (i + run (l.drop i))) (l.drop (i + run (l.drop i))) := by
            obtain ⟨f, hf⟩ : ∃ f, l.length - i = f + 1 := ⟨l.length - i - 1, by omega⟩
            conv => lhs; rw [hf]; unfold packL
            rw [if_neg hne, if_pos c, List.drop_drop, packL_fuel f (l.drop (i + run (l.drop i))) (l.length - (i + run (l.drop i))) (by simp; omega) (by simp)]
          rw [hpk]
          generalize run (l.drop i) = r at c r1 r3 hpk ⊢
          have g1 : (r : Int) ≥ 3 := by omega
          have g2 : (0 : Int) ≤ i := by omega
          have g3 : (out ++ [257 - (r : Int), (l.drop i).getD 0 0]).length + 2 * (l.length - (i + r)) < 140737488355328 := by simp; omega
          have g4 : out.length + (0 + 1 + 1) < 140737488355328 := by omega
          have hih := ih.1 k (i + r) (out ++ [257 - (r : Int), (l.drop i).getD 0 0]) (by omega) (by omega) (by omega) g3
          have g5 : i + r ≤ 2000000 := by omega
          have g6 : r ≤ 128 := r3.2
          simp only [wrap_run r g6 c, show rd l (i : Int) = (l.drop i).getD 0 0 by rw [getD_drop, rd_nat]; rfl, wrap_add i r g5, if_pos g1, if_pos g2, List.length_cons, List.length_nil, if_pos g4]
          rw [hih]
          simp
        · rw [if_neg (by omega)]
          exact ih.2 k i 0 128 out hil (by omega) (by omega) (by omega) (by omega) (.inl ⟨rfl, rfl⟩) (by omega) (by omega) hN
      · have e : l.length - i = 0 := by omega
        rw [if_neg (by omega), e]; simp [packL]
    · intro k i n d out hil hr h2 h3 h4 h5 h6 hk hN
      have hne : l.drop i ≠ [] := by intro e; have := List.drop_eq_nil_iff.1 e; omega
      obtain ⟨k, rfl⟩ : ∃ m, k = m + 1 := ⟨k - 1, by omega⟩
      obtain ⟨f, hf⟩ : ∃ f, l.length - i = f + 1 := ⟨l.length - i - 1, by omega⟩
      have gin : i + n ≤ 2000000 := by omega
      have hpk : litLen (l.drop i) = n → packL (l.length - i) (l.drop i) = ((n : Int) - 1) :: ((l.drop i).take n ++ packL (l.length - (i + n)) (l.drop (i + n))) := by
        intro hq
        have hn0 := litLen_pos (l.drop i)
        conv => lhs; rw [hf]; unfold packL
        rw [if_neg hne, if_neg (by omega), hq, List.drop_drop, packL_fuel f (l.drop (i + n)) (l.length - (i + n)) (by simp; omega) (by simp)]
      have htk : (l.take (i + n)).drop i = (l.drop i).take n := by rw [List.drop_take]; congr 1; omega
      have g0 : (0 : Int) ≤ i := by omega
      have g1 : (i : Int) ≤ ((i + n : Nat) : Int) := by omega
      have g2 : ((i + n : Nat) : Int) ≤ (l.length : Int) := by omega
      have g3 : out.length < 140737488355328 := by omega
      have g4 : 1 ≤ n → (out ++ [(n : Int) - 1]).length + ((l.drop i).take n).length < 140737488355328 := by intro h; simp; omega
      have g5 : 1 ≤ n → (out ++ [(n : Int) - 1] ++ (l.drop i).take n).length + 2 * (l.length - (i + n)) < 140737488355328 := by intro h; simp; omega
      have hih : 1 ≤ n → atlasref29_Pack.l0 k l (out ++ [(n : Int) - 1] ++ (l.drop i).take n) ((i + n : Nat) : Int) = some (out ++ [(n : Int) - 1] ++ (l.drop i).take n ++ packL (l.length - (i + n)) (l.drop (i + n))) := fun h => ih.1 k (i + n) _ (by omega) (by omega) (by omega) (g5 h)
      have fin : 1 ≤ n → litLen (l.drop i) = n → (if out.length < 140737488355328 then
          ((some (out ++ [(wrap64 ((n : Int) - 1)) % 256] : List Int)).bind fun y => (if 0 ≤ (i : Int) then (if (i : Int) ≤ ((i + n : Nat) : Int) then (if ((i + n : Nat) : Int) ≤ (l.length : Int) then (if y.length + ((l.take (((i + n : Nat) : Int)).toNat).drop ((i : Int)).toNat).length < 140737488355328 then (atlasref29_Pack.l0 k l (y ++ ((l.take (((i + n : Nat) : Int)).toNat).drop ((i : Int)).toNat)) ((i + n : Nat) : Int)) else (none)) else (none)) else (none)) else (none))) else (none)) = some (out ++ packL (l.length - i) (l.drop i)) := by
        intro hn1 hq
        simp only [wrap_one n h2 hn1, Option.bind_some, if_pos g3, if_pos g0, if_pos g1, if_pos g2, Int.toNat_natCast, htk, if_pos (g4 hn1)]
        rw [hih hn1, hpk hq]
        simp
      clear hpk htk hih g4 g5
      simp only [atlasref29_Pack.l1]
      rcases h5 with ⟨rfl, rfl⟩ | ⟨hn1, h5⟩
      · have e0 : wrap64 ((i : Int) + ((0 : Nat) : Int)) = (i : Int) := by rw [wrap_add i 0 (by omega)]; rfl
        have e1 : wrap64 (((0 : Nat) : Int) + 1) = ((1 : Nat) : Int) := by rw [wrap_next 0 (by omega)]
        have q1 : (i : Int) < (l.length : Int) := by omega
        have q2 : ((0 : Nat) : Int) < 128 := by omega
        have q3 : ((run (l.drop i) : Nat) : Int) < 3 := by omega
        have q4 := ih.2 k i 1 127 out hil hr (by omega) (by omega) (by omega) (.inr ⟨by omega, rfl⟩) (by omega) (by omega) hN
        simp only [e0, e1, if_pos q1, if_pos q2, rrun_is l (by omega) i hil k (by omega), Option.bind_some, if_pos q3]
        exact q4
      · rw [wrap_add i n gin]
        by_cases c : ((i + n : Nat) : Int) < (l.length : Int)
        · rw [if_pos c]
          by_cases c2 : (n : Int) < 128
          · rw [if_pos c2, rrun_is l (by omega) (i + n) (by omega) k (by omega)]
            simp only [Option.bind_some]
            obtain ⟨d, rfl⟩ : ∃ q, d = q + 1 := ⟨d - 1, by omega⟩
            have ed : (l.drop i).drop n = l.drop (i + n) := List.drop_drop
            by_cases c3 : run (l.drop (i + n)) < 3
            · rw [if_pos (by omega), wrap_next n h2]
              refine ih.2 k i (n + 1) d out hil hr (by omega) (by omega) (by omega) (.inr ⟨by omega, ?_⟩) (by omega) (by omega) hN
              rw [h5]; conv => lhs; unfold lit
              rw [ed, if_pos ⟨by simp; omega, by omega, c3⟩]
            · rw [if_neg (by omega)]
              refine fin hn1 ?_
              rw [h5]; unfold lit; rw [ed, if_neg (fun x => c3 x.2.2)]
          · rw [if_neg c2]
            refine fin hn1 ?_
            rw [h5]; cases d with
            | zero => rfl
            | succ d => unfold lit; rw [if_neg (by omega)]
        · rw [if_neg c]
          refine fin hn1 ?_
          rw [h5]; cases d with
          | zero => rfl
          | succ d => unfold lit; rw [if_neg (by simp; omega)]
theorem RPack_is (l : List Int) (hl : l.length ≤ 1048576) (k : Nat) (hk : 6 * l.length + 400 ≤ k) : atlasref29_Pack.f k l = some (packL l.length l) := by
  unfold atlasref29_Pack.f
  have h := (rpack_is l hl (3 * l.length + 2)).1 k 0 [] (by omega) (by omega) (by omega) (by simp; omega)
  simpa using h
end Go.Proofs.Ytakihcdolpocjaa.PSnapPacksProg
namespace Go.Proofs.Ytakihcdolpocjaa.snapPacks
open Go.RowKit Go.Proofs.Ytakihcdolpocjaa.PSnapPacks Go.Proofs.YtakihcdolpocjaaW.PrintWords Go.Proofs.YtakihcdolpocjaaW.PrintLast
theorem packs_walk (A : Option Addr) (len cap : Nat) (zs : List Int) (w : World) (hlen : len ≤ 1048576)
    (w0 : (A = none ∧ len = 0 ∧ cap = 0 ∧ zs = []) ∨ ∃ x, A = some x ∧ len ≤ cap ∧ cap ≤ maxLen ∧ zs.length = cap ∧ (∀ i, i < zs.length → w.cell? (x.add i) = some (.int .u8 (zs.getD i 0))) ∧ ∀ n ∈ zs, (Lit.int .u8 n).wf = true) :
    Calls Try.prog 4 #[.slice A len cap] w fun e w' => e = .returned (.bool true) ∧ Below w.heap.size w w' := by
  obtain ⟨l0, rfl, hr0, hm0, hw0, hc0⟩ := ReadsInt.ofRowC w0
  exact law_SnapPacks.calls (6 * l0.length + 400) _ _ l0 _ w (Kd.C_of_reads (d := (0 : Int)) (h1 := fun _ => rfl) hr0) hc0 (by omega)
    (PSnapPacksProg.Pack_is l0 hlen _ (by omega)) (PSnapPacksProg.RPack_is l0 hlen _ (by omega))
end Go.Proofs.Ytakihcdolpocjaa.snapPacks
