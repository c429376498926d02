/- Layer 18: Small, what it stands on. Layer 18: Long. -/
import Derived.Test.YtpfhplhamnohjaaG06
import Derived.Test.YtpfhplhamnohjaaUMlm
import Derived.Test.YtpfhplhamnohjaaG04
namespace Go.Proofs.Ytpfhplhamnohjaa
set_option maxHeartbeats 25600000
set_option maxRecDepth 100000
open Go.RowKit

theorem bitLen_32 (x : Int) (h1 : x < 4294967296) : Lib.bitLen x.toNat ≤ 32 := Lib.bitLen_le x.toNat 32 (by omega) (by omega)
def clzI (x : Int) : Int := 32 - (Lib.bitLen x.toNat : Int)
theorem Clz_is (x : Int) (h0 : 0 ≤ x) (h1 : x < 4294967296) (W : World) :
    Calls Try.prog 83 #[.int .u32 x] W fun e w' => e = .returned (.int .i64 (clzI x)) ∧ w' = W := by
  have l := bitLen_32 x h1
  have R := Lib.hid (fun W => Len32_is x h0 h1 W)
  have HE := Lib.hid (show clzI x = 32 - (Lib.bitLen x.toNat : Int) from rfl)
  rw [HE.out]
  clear HE
  generalize Lib.bitLen x.toNat = b at l R ⊢
  have e8 : wrap64 (32 - (b : Int)) = 32 - (b : Int) := by unfold wrap64; omega
  go_enter Try.func83, Try.ntmps83
  go_wp2_with (go_at_call 99; (with_reducible refine (R.out _).mono ?_); rintro e w' ⟨rfl, rfl⟩)
  go_ret
  exact ⟨rfl, rfl⟩
def smallW (op x t : Int) : Int :=
  if op = 25 then clzI x % 4294967296 else if op = 26 then revI x
  else if op = 27 then bits .and .u32 (rotW x (-8 * t)) 255 else if op = 28 then bits .and .u32 (rotW x (-8 * t)) 65535
  else if op = 29 then wrap32 (IntKind.i8.wrap (rotW x (-8 * t))) % 4294967296 else wrap32 (IntKind.i16.wrap (rotW x (-8 * t))) % 4294967296
theorem Small_is (op x t : Int) (ho : 25 ≤ op ∧ op ≤ 30) (hx : 0 ≤ x ∧ x < 4294967296) (ht : 0 ≤ t ∧ t < 4) (W : World) :
    Calls Try.prog 69 #[.int .i64 op, .int .u32 x, .int .i64 t] W fun e w' => e = .returned (.tuple #[.int .u32 (smallW op x t), .bool true]) ∧ W = w' := by
  have m : bits .and .i64 t 3 = t := by
    have h := bits_mask .i64 63 (by decide) (fun v h0 h1 => by rw [IntKind.wrap_i64]; simp at h1; omega) 2 (by decide) t ht.1 (by simp; omega)
    simpa [show t % 4 = t by omega] using h
  have d1 : wrap64 (-8 * t) = -8 * t := by unfold wrap64; omega
  have R := Lib.hid (fun W => Rot_is x (-8 * t) W)
  have L := Lib.hid (fun W => Clz_is x hx.1 hx.2 W)
  have V := Lib.hid (fun W => Rev_is x W)
  have h6 : op = 25 ∨ op = 26 ∨ op = 27 ∨ op = 28 ∨ op = 29 ∨ op = 30 := by omega
  clear ho hx ht
  have HS := Lib.hid (rfl : smallW op x t = smallW op x t)
  generalize hs : smallW op x t = r at HS ⊢
  unfold smallW at hs
  generalize rotW x (-8 * t) = y at R hs
  generalize clzI x = z at L hs
  generalize revI x = v at V hs
  have HQ := Lib.hid hs
  clear hs HS
  rcases h6 with rfl | rfl | rfl | rfl | rfl | rfl
  all_goals
    have HR := HQ.out
    simp only [Int.reduceEq, if_true, if_false] at HR
    have HP := Lib.hid HR
    clear HQ HR
    go_enter Try.func69, Try.ntmps69
    go_wp2_with (first | (go_at_call 82; (with_reducible refine (R.out _).mono ?_); rintro e w1 ⟨rfl, rfl⟩) | (go_at_call 83; (with_reducible refine (L.out _).mono ?_); rintro e w1 ⟨rfl, rfl⟩) | (go_at_call 84; (with_reducible refine (V.out _).mono ?_); rintro e w1 ⟨rfl, rfl⟩))
    go_ret2
    refine ⟨?_, rfl⟩
    rw [← HP.out]
    rfl
end Go.Proofs.Ytpfhplhamnohjaa
namespace Go.Proofs.Ytpfhplhamnohjaa
set_option maxHeartbeats 25600000
set_option maxRecDepth 100000
open Go.RowKit

def longP (m s : Int) : Int := IntKind.u64.wrap (m * s)
def longQ (m s : Int) : Int := IntKind.u64.wrap (wrap64 (wrap64 (wrap32 m) * wrap64 (wrap32 s)))
def longA (h l : Int) : Int := bits .or .u64 (h * 4294967296) l
def longI (op m s h l : Int) : Int × Int :=
  if op = 19 then (longP m s % 4294967296 / 4294967296, longP m s % 4294967296)
  else if op = 20 then ((longP m s + l) % 4294967296 / 4294967296, (longP m s + l) % 4294967296)
  else if op = 21 then (longP m s / 4294967296 % 4294967296, longP m s % 4294967296)
  else if op = 22 then (IntKind.u64.wrap (longP m s + longA h l) / 4294967296 % 4294967296, IntKind.u64.wrap (longP m s + longA h l) % 4294967296)
  else if op = 23 then (longQ m s / 4294967296 % 4294967296, longQ m s % 4294967296)
  else (IntKind.u64.wrap (longQ m s + longA h l) / 4294967296 % 4294967296, IntKind.u64.wrap (longQ m s + longA h l) % 4294967296)
theorem ret_iib {a b c d : Int} {r : Int × Int} (h : r = (c, d)) (h1 : a = c) (h2 : b = d) : Ending.returned (.tuple #[.int .u32 a, .int .u32 b, .bool true]) = .returned (.tuple #[.int .u32 r.1, .int .u32 r.2, .bool true]) := by rw [h, h1, h2]
theorem Long_is (op m s h l : Int) (ho : 19 ≤ op ∧ op ≤ 24) (hm : 0 ≤ m ∧ m < 4294967296) (hs : 0 ≤ s ∧ s < 4294967296) (hh : 0 ≤ h ∧ h < 4294967296) (hl : 0 ≤ l ∧ l < 4294967296) (W : World) :
    Calls Try.prog 68 #[.int .i64 op, .int .u32 m, .int .u32 s, .int .u32 h, .int .u32 l] W fun e w' => e = .returned (.tuple #[.int .u32 (longI op m s h l).1, .int .u32 (longI op m s h l).2, .bool true]) ∧ W = w' := by
  obtain ⟨hm0, hm1⟩ := hm
  obtain ⟨hs0, hs1⟩ := hs
  obtain ⟨hh0, hh1⟩ := hh
  obtain ⟨hl0, hl1⟩ := hl
  have h6 : op = 19 ∨ op = 20 ∨ op = 21 ∨ op = 22 ∨ op = 23 ∨ op = 24 := by omega
  clear ho
  rcases h6 with rfl | rfl | rfl | rfl | rfl | rfl
  all_goals
    go_enter Try.func68, Try.ntmps68
    go_wp2
    go_ret3
    exact ⟨ret_iib rfl rfl rfl, rfl⟩
end Go.Proofs.Ytpfhplhamnohjaa
