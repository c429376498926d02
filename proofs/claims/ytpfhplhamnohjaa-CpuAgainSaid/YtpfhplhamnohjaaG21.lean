/- Bits of a word as a BitVec (plain). -/
import Derived.Test.YtpfhplhamnohjaaG17
namespace Go.Proofs.Ytpfhplhamnohjaa
open Go.RowKit

theorem nat_bv (x : Int) (h : 0 ≤ x ∧ x < 4294967296) : ((BitVec.ofInt 32 x).toNat : Int) = x := by
  rw [BitVec.toNat_ofInt]; omega
theorem wordF_low (f : Flg) : (0 ≤ wordF f ∧ wordF f < 4294967296) ∧ wordF f % 268435456 = 0 := by
  unfold wordF
  split <;> split <;> split <;> split <;> decide
theorem bv_or (x y : Int) : bits .or .u32 x y = ((BitVec.ofInt 32 x ||| BitVec.ofInt 32 y).toNat : Int) := by
  unfold bits
  rw [IntKind.wrap_u32]
  show ((BitVec.ofInt 32 x ||| BitVec.ofInt 32 y).toNat : Int) % 4294967296 = _
  have := (BitVec.ofInt 32 x ||| BitVec.ofInt 32 y).isLt
  omega
theorem bv_and (x y : Int) : bits .and .u32 x y = ((BitVec.ofInt 32 x &&& BitVec.ofInt 32 y).toNat : Int) := by
  unfold bits
  rw [IntKind.wrap_u32]
  show ((BitVec.ofInt 32 x &&& BitVec.ofInt 32 y).toNat : Int) % 4294967296 = _
  have := (BitVec.ofInt 32 x &&& BitVec.ofInt 32 y).isLt
  omega
theorem bv_not (x y : Int) : bits .andNot .u32 x y = ((BitVec.ofInt 32 x &&& ~~~ BitVec.ofInt 32 y).toNat : Int) := by
  unfold bits
  rw [IntKind.wrap_u32]
  show ((BitVec.ofInt 32 x &&& ~~~ BitVec.ofInt 32 y).toNat : Int) % 4294967296 = _
  have := (BitVec.ofInt 32 x &&& ~~~ BitVec.ofInt 32 y).isLt
  omega
theorem bv_back (v : BitVec 32) : BitVec.ofInt 32 (v.toNat : Int) = v := by rw [BitVec.ofInt_natCast, BitVec.ofNat_toNat, BitVec.setWidth_eq]
theorem or_low (A W : BitVec 32) (h : W.toNat % 2 ^ 28 = 0) : ((A &&& ~~~ 4026531840#32) ||| W).toNat % 2 ^ 28 = A.toNat % 2 ^ 28 := by
  have e : ∀ V : BitVec 32, V.toNat % 2 ^ 28 = (V.setWidth 28).toNat := fun V => by simp
  have z : W.setWidth 28 = 0#28 := BitVec.eq_of_toNat_eq (by rw [← e]; simpa using h)
  have n : (~~~ 4026531840#32).setWidth 28 = BitVec.allOnes 28 := by decide
  rw [e, e, BitVec.setWidth_or, BitVec.setWidth_and, z, n, BitVec.and_allOnes, BitVec.or_zero]
theorem low28 (x w : Int) (hx : 0 ≤ x ∧ x < 4294967296) (hw : 0 ≤ w ∧ w < 4294967296) (hm : w % 268435456 = 0) : bits .or .u32 (bits .andNot .u32 x 4026531840) w % 268435456 = x % 268435456 := by
  have W := nat_bv w hw
  have X := nat_bv x hx
  have key := or_low (BitVec.ofInt 32 x) (BitVec.ofInt 32 w) (by omega)
  have b1 : bits .andNot .u32 x 4026531840 = ((BitVec.ofInt 32 x &&& ~~~ 4026531840#32).toNat : Int) := by
    unfold bits
    rw [IntKind.wrap_u32]
    show ((BitVec.ofInt 32 x &&& ~~~ 4026531840#32).toNat : Int) % 4294967296 = _
    have := (BitVec.ofInt 32 x &&& ~~~ 4026531840#32).isLt
    omega
  rw [b1]
  unfold bits
  rw [IntKind.wrap_u32]
  show (((BitVec.ofInt 32 ((BitVec.ofInt 32 x &&& ~~~ 4026531840#32).toNat : Int)) ||| BitVec.ofInt 32 w).toNat : Int) % 4294967296 % 268435456 = _
  rw [BitVec.ofInt_natCast, BitVec.ofNat_toNat, BitVec.setWidth_eq]
  omega
end Go.Proofs.Ytpfhplhamnohjaa
