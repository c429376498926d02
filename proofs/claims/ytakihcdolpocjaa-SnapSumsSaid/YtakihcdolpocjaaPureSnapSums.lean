/- Of any bytes, at any length that a slice may have, the program's sum is the document's sum: both go through the bytes with the same two remainders, and 'or' is '+' where the low word is below 65536. -/
import Derived.Test.YtakihcdolpocjaaPSnapSumsx1
import Derived.Laws.BitsLemmas
namespace Go.Proofs.Ytakihcdolpocjaa.Pure
open Go.RowKit Go.Proofs.Ytakihcdolpocjaa.PSnapSums Go.Proofs.YtakihcdolpocjaaW.PrintWords Go.Proofs.YtakihcdolpocjaaW.PrintLast

theorem or_low (x y : Int) (h0 : 0 ≤ x) (hx : x < 65535) (h1 : 0 ≤ y) (_hy : y < 65535) : Go.bits .or .u32 ((y * 65536) % 4294967296) x = (((y * 65536) % 4294967296) + x) % 4294967296 := by
  rw [Go.u32_or _ _ (by omega) (by omega) h0 (by omega)]
  obtain ⟨a, rfl⟩ := Int.eq_ofNat_of_zero_le h0
  obtain ⟨b, rfl⟩ := Int.eq_ofNat_of_zero_le h1
  have e : (((b : Int) * 65536) % 4294967296).toNat = b * 2 ^ 16 := by omega
  have ha : a < 2 ^ 16 := by omega
  rw [e, Int.toNat_natCast, Nat.mul_comm b, ← Nat.two_pow_add_eq_or_of_lt ha]
  omega

theorem sums_same (l : List Int) (hn : l.length ≤ 140737488351232) (d : Nat) : ∀ (k : Nat) (x y i : Int), 0 ≤ i → i ≤ l.length → (l.length : Int) - i = d → d < k → 0 ≤ x → x < 65535 → 0 ≤ y → y < 65535 →
    ∃ r, snap_Sum.l0 k x y l (l.length : Int) i = some r ∧ atlasref29_Sum.l0 k l x y i = some r := by
  induction d with
  | zero =>
    intro k x y i h0 h1 hd hk a b c e
    obtain ⟨k, rfl⟩ : ∃ m, k = m + 1 := ⟨k - 1, by omega⟩
    refine ⟨(((y * 65536) % 4294967296) + x) % 4294967296, ?_, ?_⟩
    · simp only [snap_Sum.l0]; rw [if_neg (by omega), or_low x y a b c e]
    · simp only [atlasref29_Sum.l0]; rw [if_neg (by omega)]
  | succ d ih =>
    intro k x y i h0 h1 hd hk a b c e
    obtain ⟨k, rfl⟩ : ∃ m, k = m + 1 := ⟨k - 1, by omega⟩
    have hw : wrap64 (i + 1) = i + 1 := by unfold wrap64; omega
    obtain ⟨r, h, h'⟩ := ih k (((x + ((rd l i) % 4294967296)) % 4294967296) % 65535) (((y + (((x + ((rd l i) % 4294967296)) % 4294967296) % 65535)) % 4294967296) % 65535) (i + 1) (by omega) (by omega) (by omega) (by omega) (by omega) (by omega) (by omega) (by omega)
    refine ⟨r, ?_, ?_⟩
    · simp only [snap_Sum.l0]; rw [if_pos (by omega), if_pos h0, if_pos (by omega), hw]; exact h
    · simp only [atlasref29_Sum.l0]; rw [if_pos (by omega), if_pos h0, hw]; exact h'

theorem SnapSums : atlaslaw29_SnapSums.Pure := by
  intro l _ hb _
  obtain ⟨r, h, h'⟩ := sums_same l (by omega) l.length (l.length + 1) 0 0 0 (by omega) (by omega) (by omega) (by omega) (by omega) (by omega) (by omega) (by omega)
  refine ⟨l.length + 1, ?_⟩
  unfold atlaslaw29_SnapSums.f snap_Sum.f atlasref29_Sum.f
  simp only [Option.bind_some, List.nil_append, List.length_nil]
  rw [if_pos (by omega), h, h']
  simp

end Go.Proofs.Ytakihcdolpocjaa.Pure
