/- Layer 20: back. Layer 20: the work of an instruction in memory; get, put, user, flags, mark, own. Layer 18: Do, joined; bounds. Layer 20: operand. Layer 20: wide, small, branch, size. -/
import Derived.Test.YtpfhplhamnohjaaUChm
import Derived.Test.YtpfhplhamnohjaaG00
import Derived.Test.YtpfhplhamnohjaaG04
import Derived.WalkLawsBesides
import Derived.Test.YtpfhplhamnohjaaULfm
import Derived.Test.YtpfhplhamnohjaaULgm
import Derived.Test.YtpfhplhamnohjaaULhm
import Derived.Test.YtpfhplhamnohjaaULim
import Derived.Test.YtpfhplhamnohjaaG06
import Derived.Test.YtpfhplhamnohjaaG07
namespace Go.Proofs.Ytpfhplhamnohjaa
set_option maxHeartbeats 25600000
set_option maxRecDepth 100000
open Go.RowKit

def backB (s : Sta) : Bool := !(bankW (s 29) == 0) && (bankB (s (23 + (bankW (s 29)).toNat) % 32)).2
def backT (s : Sta) (v : Int) : Sta := set (set s 29 (s (23 + (bankW (s 29)).toNat))) 28 (and3 v)
def backR (s : Sta) (v : Int) : Sta := if backB s then backT s v else s
theorem ret_sta2 {fn : Func} {R : Ending → World → Prop} {a : Act} {w : World} (k u : Nat) (g : Nat) (J : Sta) (b : Value) (hr : fn.results = #[.cell k 26, .tmp u]) (ht : a.tmps.getD k undef = .pointer (some ⟨g, 0, none⟩)) (hv : a.tmps.getD u undef = b)
    (hb : Blok w g 26 (staCells J)) (hdef : a.defers = []) (hR : R (.returned (.tuple #[.agg (staCells J).toArray, b])) w) : bodyPost Try.prog fn R .ret a w := by
  refine bodyPost_ret (v := .tuple #[.agg (staCells J).toArray, b]) ?_ hdef hR
  have ht' : a.tmps[k]?.getD undef = .pointer (some ⟨g, 0, none⟩) := by simpa using ht
  have hv' : a.tmps[u]?.getD undef = b := by simpa using hv
  simp [results, hr, ht', hv', asAddr, run_loadVar_mid w g 0 26 (staCells J) _ hb.range Try.underlying26 rfl (by rw [sta_size, staCells_len])]
theorem Blok.setsta {w : World} {g : Nat} {t : TypeId} {s : Sta} (h : Blok w g t (staCells s)) (i : Nat) (v : Int) : Blok (w.setCell ⟨g, i, none⟩ (.int .u32 v)) g t (staCells (set s i v)) := by
  rw [← staCells_set]; exact h.set_ i _
theorem sta_cell {w : World} {g : Nat} {t : TypeId} {s : Sta} (h : Blok w g t (staCells s)) (i : Nat) (hi : i < 30) : w.cell? ⟨g, i, none⟩ = some (.int .u32 (s i)) := by
  rw [h.cell i, staCells_get _ _ hi]
theorem staCells_lit (s : Sta) : (staCells s).toArray = #[.int .u32 (s 0), .int .u32 (s 1), .int .u32 (s 2), .int .u32 (s 3), .int .u32 (s 4), .int .u32 (s 5), .int .u32 (s 6), .int .u32 (s 7), .int .u32 (s 8), .int .u32 (s 9), .int .u32 (s 10), .int .u32 (s 11), .int .u32 (s 12), .int .u32 (s 13), .int .u32 (s 14), .int .u32 (s 15), .int .u32 (s 16), .int .u32 (s 17), .int .u32 (s 18), .int .u32 (s 19), .int .u32 (s 20), .int .u32 (s 21), .int .u32 (s 22), .int .u32 (s 23), .int .u32 (s 24), .int .u32 (s 25), .int .u32 (s 26), .int .u32 (s 27), .int .u32 (s 28), .int .u32 (s 29)] := rfl
theorem cpu_range' {w : World} {g : Nat} {t : TypeId} {s : Sta} (h : Blok w g t (staCells s)) : w.rangeAt g 0 (staCells s) := h.range
theorem back_is (s : Sta) (v : Int) (hs : OkS s) (W : World) :
    Calls Try.prog 30 #[.agg (staCells s).toArray, .int .u32 v] W fun e w' => e = .returned (.tuple #[.agg (staCells (backR s v)).toArray, .bool (backB s)]) ∧ Below W.heap.size W w' := by
  rw [staCells_lit s]
  have hA : Blok ((W.alloc (.cells (staA s) 26)).alloc (.cells #[.int .u32 0, .int .u32 0, .int .u32 0, .int .u32 0, .int .u32 0, .int .u32 0, .int .u32 0, .int .u32 0, .int .u32 0, .int .u32 0, .int .u32 0, .int .u32 0, .int .u32 0, .int .u32 0, .int .u32 0, .int .u32 0, .int .u32 0, .int .u32 0, .int .u32 0, .int .u32 0, .int .u32 0, .int .u32 0, .int .u32 0, .int .u32 0, .int .u32 0, .int .u32 0, .int .u32 0, .int .u32 0, .int .u32 0, .int .u32 0] 26)) W.heap.size 26 (staCells s) := (Blok.new W _ (staCells s)).alloc _
  have hZ : Blok ((W.alloc (.cells (staA s) 26)).alloc (.cells #[.int .u32 0, .int .u32 0, .int .u32 0, .int .u32 0, .int .u32 0, .int .u32 0, .int .u32 0, .int .u32 0, .int .u32 0, .int .u32 0, .int .u32 0, .int .u32 0, .int .u32 0, .int .u32 0, .int .u32 0, .int .u32 0, .int .u32 0, .int .u32 0, .int .u32 0, .int .u32 0, .int .u32 0, .int .u32 0, .int .u32 0, .int .u32 0, .int .u32 0, .int .u32 0, .int .u32 0, .int .u32 0, .int .u32 0, .int .u32 0] 26)) (W.heap.size + 1) 26 (staCells zSta) := by
    have := Blok.new (W.alloc (.cells (staA s) 26)) 26 (staCells zSta)
    rwa [show (W.alloc (.cells (staA s) 26)).heap.size = W.heap.size + 1 by simp] at this
  have hB : Below W.heap.size W ((W.alloc (.cells (staA s) 26)).alloc (.cells #[.int .u32 0, .int .u32 0, .int .u32 0, .int .u32 0, .int .u32 0, .int .u32 0, .int .u32 0, .int .u32 0, .int .u32 0, .int .u32 0, .int .u32 0, .int .u32 0, .int .u32 0, .int .u32 0, .int .u32 0, .int .u32 0, .int .u32 0, .int .u32 0, .int .u32 0, .int .u32 0, .int .u32 0, .int .u32 0, .int .u32 0, .int .u32 0, .int .u32 0, .int .u32 0, .int .u32 0, .int .u32 0, .int .u32 0, .int .u32 0] 26)) := ((Below.refl _ _).alloc (Nat.le_refl _) _).alloc (by simp) _
  have BW := bankW_lt (s 29)
  have R := Lib.hid (fun W => bank_is (s 29) (hs 29 (by omega)).1 (hs 29 (by omega)).2 W)
  have HT := Lib.hid (fun (v : Int) => show backT s v = set (set s 29 (s (23 + (bankW (s 29)).toNat))) 28 (bits .andNot .u32 v 3) from rfl)
  have HQ := Lib.hid (show backB s = (!(bankW (s 29) == 0) && (bankB (s (23 + (bankW (s 29)).toNat) % 32)).2) from rfl)
  obtain ⟨T, hT⟩ : ∃ T, T = backR s v := ⟨_, rfl⟩
  obtain ⟨fb, hfb⟩ : ∃ fb, fb = backB s := ⟨_, rfl⟩
  have HR := Lib.hid (show T = if backB s then backT s v else s from hT)
  have HFB := Lib.hid hfb
  rw [← hT, ← hfb]
  clear hT hfb
  generalize bankW (s 29) = n at BW R HT HQ
  obtain ⟨n0, n5⟩ := BW
  have hx := hs (23 + n.toNat) (by omega)
  have hlt : 23 + n.toNat < 30 := by omega
  have m2 : bits .and .u32 (s (23 + n.toNat)) 31 = s (23 + n.toNat) % 32 := and32 5 (by decide) _ hx.1 (by simpa using hx.2)
  have d1 : wrap64 (s (23 + n.toNat) % 32) = s (23 + n.toNat) % 32 := by unfold wrap64; omega
  have D := Lib.hid (fun W => Bank_is (s (23 + n.toNat) % 32) W)
  clear hx hs
  go_enter Try.func30, Try.ntmps30
  go_upto_region 1 with fail
  generalize (W.alloc (.cells (staA s) 26)).alloc (.cells #[.int .u32 0, .int .u32 0, .int .u32 0, .int .u32 0, .int .u32 0, .int .u32 0, .int .u32 0, .int .u32 0, .int .u32 0, .int .u32 0, .int .u32 0, .int .u32 0, .int .u32 0, .int .u32 0, .int .u32 0, .int .u32 0, .int .u32 0, .int .u32 0, .int .u32 0, .int .u32 0, .int .u32 0, .int .u32 0, .int .u32 0, .int .u32 0, .int .u32 0, .int .u32 0, .int .u32 0, .int .u32 0, .int .u32 0, .int .u32 0] 26) = W1 at hA hZ hB ⊢
  generalize Value.agg (staA s) = vs
  have c29 := sta_cell hA 29 (by omega)
  have c28 := sta_cell hA 28 (by omega)
  have cn := sta_cell hA (23 + n.toNat) hlt
  have f29 := hA.frozen 29
  have f28 := hA.frozen 28
  have HS := Lib.hid (fun x y => (hA.setsta 29 x).setsta 28 y)
  have HZ := Lib.hid (fun x y => (hZ.far (p := ⟨W.heap.size, 29, none⟩) (by simp) x).far (p := ⟨W.heap.size, 28, none⟩) (by simp) y)
  generalize s (23 + n.toNat) = xn at m2 d1 D HT HQ cn
  generalize bankB (xn % 32) = bb at D HQ
  obtain ⟨bi, bo⟩ := bb
  dsimp only at D HQ
  clear hlt
  have Q := HQ.out
  have hA' := cpu_range' hA
  by_cases hz : n = 0
  · have z : (n == 0) = true := by simp [hz]
    rw [z] at Q
    have HE := Lib.hid (show T = s by rw [HR.out, Q]; rfl)
    have HF := Lib.hid (show fb = false by rw [HFB.out, Q]; rfl)
    clear Q HQ HR HFB HT hz
    go_wp2_with (first | (go_at_call 37; (with_reducible refine (R.out _).mono ?_); rintro e w2 ⟨rfl, rfl⟩) | (go_at_call 31; (with_reducible refine (D.out _).mono ?_); rintro e w3 ⟨rfl, rfl⟩) | (refine wpList_load_sta rfl (.tmp 2) rfl W.heap.size s rfl hA' ?_) | (refine wpList_store_sta rfl (.tmp 4) (.tmp 28) rfl (W.heap.size + 1) s zSta rfl rfl hZ ?_; intro w5 B5 g5))
    refine ret_sta2 4 5 (W.heap.size + 1) s (.bool false) rfl rfl rfl B5 rfl ⟨by rw [HE.out, HF.out], ?_⟩
    exact bgrow hB g5 (by omega)
  have z : (n == 0) = false := by simp [hz]
  rw [z] at Q
  cases bo
  · have HE := Lib.hid (show T = s by rw [HR.out, Q]; rfl)
    have HF := Lib.hid (show fb = false by rw [HFB.out, Q]; rfl)
    clear Q HQ HR HFB HT hz
    go_wp2_with (first | (go_at_call 37; (with_reducible refine (R.out _).mono ?_); rintro e w2 ⟨rfl, rfl⟩) | (go_at_call 31; (with_reducible refine (D.out _).mono ?_); rintro e w3 ⟨rfl, rfl⟩) | (refine wpList_load_sta rfl (.tmp 2) rfl W.heap.size s rfl hA' ?_) | (refine wpList_store_sta rfl (.tmp 4) (.tmp 28) rfl (W.heap.size + 1) s zSta rfl rfl hZ ?_; intro w5 B5 g5))
    refine ret_sta2 4 5 (W.heap.size + 1) s (.bool false) rfl rfl rfl B5 rfl ⟨by rw [HE.out, HF.out], ?_⟩
    exact bgrow hB g5 (by omega)
  · have HE := Lib.hid (show T = set (set s 29 xn) 28 (bits .andNot .u32 v 3) by rw [HR.out, Q, HT.out]; rfl)
    have HF := Lib.hid (show fb = true by rw [HFB.out, Q]; rfl)
    clear Q HQ HR HFB HT hz
    go_upto_region 6 with (first | (go_at_call 37; (with_reducible refine (R.out _).mono ?_); rintro e w2 ⟨rfl, rfl⟩) | (go_at_call 31; (with_reducible refine (D.out _).mono ?_); rintro e w3 ⟨rfl, rfl⟩))
    have HL := HS.out xn (bits .andNot .u32 v 3)
    have HM := HZ.out (.int .u32 xn) (.int .u32 (bits .andNot .u32 v 3))
    have hL' := cpu_range' HL
    go_wp2_with (first | (refine wpList_load_sta rfl (.tmp 2) rfl W.heap.size _ rfl hL' ?_) | (refine wpList_store_sta rfl (.tmp 4) (.tmp 37) rfl (W.heap.size + 1) _ zSta rfl rfl HM ?_; intro w5 B5 g5))
    refine ret_sta2 4 5 (W.heap.size + 1) _ (.bool true) rfl rfl rfl B5 rfl ⟨by rw [HE.out, HF.out], ?_⟩
    exact bgrow (bgrow (bgrow hB (grown_one _ _ _ _) (Nat.le_refl _)) (grown_one _ _ _ _) (Nat.le_refl _)) g5 (by omega)
end Go.Proofs.Ytpfhplhamnohjaa
namespace Go.Proofs.Ytpfhplhamnohjaa
set_option maxHeartbeats 25600000
set_option maxRecDepth 100000
open Go.RowKit

def workCells (o s : Sta) (b : Value) (at_ : Int) (i : Ins) (wt : Bool) : List Value := staCells o ++ (staCells s ++ (b :: .int .u32 at_ :: (insCells i ++ [.bool wt])))
section
variable {w : World} {g : Nat} {t : TypeId} {o s : Sta} {b : Value} {at_ : Int} {i : Ins} {wt : Bool}
theorem work_old (h : Blok w g t (workCells o s b at_ i wt)) (j : Nat) (hj : j < 30) : w.cell? ⟨g, j, none⟩ = some (.int .u32 (o j)) := by
  rw [h.cell j]
  unfold workCells
  rw [List.getElem?_append_left (by rw [staCells_len]; exact hj), staCells_get _ _ hj]
theorem work_new (h : Blok w g t (workCells o s b at_ i wt)) (j : Nat) (hj : j < 30) : w.cell? ⟨g, 30 + j, none⟩ = some (.int .u32 (s j)) := by
  rw [h.cell (30 + j)]
  unfold workCells
  rw [List.getElem?_append_right (by rw [staCells_len]; omega), staCells_len, List.getElem?_append_left (by rw [staCells_len]; omega), show 30 + j - 30 = j by omega, staCells_get _ _ hj]
theorem Blok.setwork (h : Blok w g t (workCells o s b at_ i wt)) (j : Nat) (hj : j < 30) (v : Int) : Blok (w.setCell ⟨g, 30 + j, none⟩ (.int .u32 v)) g t (workCells o (set s j v) b at_ i wt) := by
  have e : (workCells o s b at_ i wt).set (30 + j) (.int .u32 v) = workCells o (set s j v) b at_ i wt := by
    unfold workCells
    rw [List.set_append_right _ _ (by rw [staCells_len]; omega), staCells_len, show 30 + j - 30 = j by omega, List.set_append_left _ _ (by rw [staCells_len]; exact hj), staCells_set]
  rw [← e]; exact h.set_ _ _
end
def getI (o : Sta) (at_ n : Int) : Int := if n = 15 then (at_ + 8) % 4294967296 else o (regO (o 29) n)
def putS (s : Sta) (n v : Int) : Sta := if n = 15 then set s 28 (and3 v) else set s (regO (s 29) n) v
theorem get_is' (o s : Sta) (b : Value) (at_ : Int) (i : Ins) (wt : Bool) (g : Nat) (t : TypeId) (n : Int) (ho : OkS o) (hn : 0 ≤ n ∧ n < 16) (W : World) (h : Blok W g t (workCells o s b at_ i wt)) :
    Calls Try.prog 64 #[.pointer (some ⟨g, 0, none⟩), .int .i64 n] W fun e w' => e = .returned (.int .u32 (getI o at_ n)) ∧ ∃ k, w' = W.drewN k := by
  by_cases e15 : n = 15
  · have z : (n == 15) = true := by simp [e15]
    have HE := Lib.hid (show getI o at_ n = (at_ + 8) % 4294967296 by simp [getI, e15])
    have c61 : W.cell? ⟨g, 61, none⟩ = some (.int .u32 at_) := h.cell 61
    clear e15
    go_enter Try.func64, Try.ntmps64
    go_wp2
    go_ret
    exact ⟨by rw [HE.out]; rfl, 0, rfl⟩
  have z : (n == 15) = false := by simp [e15]
  have HE := Lib.hid (show getI o at_ n = o (regO (o 29) n) by simp [getI, e15])
  have hlt := regO_lt (o 29) n hn.1
  have hc : ∀ k, (W.drewN k).cell? ⟨g, regO (o 29) n, none⟩ = some (.int .u32 (o (regO (o 29) n))) := fun k => work_old (h.drewN k) _ hlt
  have R := Lib.hid (register0_is g (o 29) n (ho 29 (by omega)).1 (ho 29 (by omega)).2 hn.1 hn.2 W (work_old h 29 (by omega)))
  clear hlt e15
  generalize regO (o 29) n = j at hc R HE
  go_enter Try.func64, Try.ntmps64
  go_wp2_with (go_at_call 34; (with_reducible refine (R.out).mono ?_); rintro e w1 ⟨rfl, k, rfl⟩)
  go_ret
  exact ⟨by rw [HE.out]; rfl, k, rfl⟩
theorem put_is (o s : Sta) (b : Value) (at_ : Int) (i : Ins) (wt : Bool) (g : Nat) (t : TypeId) (n v : Int) (hs : OkS s) (hn : 0 ≤ n ∧ n < 16) (W : World) (h : Blok W g t (workCells o s b at_ i wt)) :
    Calls Try.prog 66 #[.pointer (some ⟨g, 0, none⟩), .int .i64 n, .int .u32 v] W fun e w' => e = .returned (.tuple #[]) ∧ Blok w' g t (workCells o (putS s n v) b at_ i wt) ∧ W.grownBy w' (some g) := by
  by_cases e15 : n = 15
  · have z : (n == 15) = true := by simp [e15]
    have HE := Lib.hid (show putS s n v = set s 28 (bits .andNot .u32 v 3) by simp [putS, and3, e15])
    rw [HE.out]
    have c58 : W.cell? ⟨g, 58, none⟩ = some (.int .u32 (s 28)) := work_new h 28 (by omega)
    have f58 := h.frozen 58
    have HS := Lib.hid (fun v => (h.setwork 28 (by omega) v : Blok (W.setCell ⟨g, 58, none⟩ (.int .u32 v)) g t _))
    clear e15
    go_enter Try.func66, Try.ntmps66
    go_wp2
    first | go_end0 | refine bodyPost_ret (results_none rfl _ _ _) rfl ?_
    exact ⟨rfl, HS.out _, grown_one _ _ _ _⟩
  have z : (n == 15) = false := by simp [e15]
  have HE := Lib.hid (show putS s n v = set s (regO (s 29) n) v by simp [putS, e15])
  rw [HE.out]
  have hlt := regO_lt (s 29) n hn.1
  have hc : ∀ k, (W.drewN k).cell? ⟨g, 30 + regO (s 29) n, none⟩ = some (.int .u32 (s (regO (s 29) n))) := fun k => work_new (h.drewN k) _ hlt
  have hf : ∀ k, (W.drewN k).frozen? ⟨g, 30 + regO (s 29) n, none⟩ = false := fun k => (h.drewN k).frozen _
  have R := Lib.hid (register_is g 30 (s 29) n (hs 29 (by omega)).1 (hs 29 (by omega)).2 hn.1 hn.2 W (work_new h 29 (by omega)))
  have HS := Lib.hid (fun k v => (h.drewN k).setwork (regO (s 29) n) hlt v)
  clear hlt e15 HE
  generalize regO (s 29) n = j at hc hf R HS ⊢
  go_enter Try.func66, Try.ntmps66
  go_wp2_with (go_at_call 34; (with_reducible refine (R.out).mono ?_); rintro e w1 ⟨rfl, k, rfl⟩)
  go_end0
  exact ⟨rfl, HS.out k _, (grown_then (w := W) (wr := W.drewN k) (bdrewN (Below.refl _ _) k) (grown_one _ _ _ _))⟩
def userB (o : Sta) : Bool := o 29 % 32 == 16
theorem user_is (o s : Sta) (b : Value) (at_ : Int) (i : Ins) (wt : Bool) (g : Nat) (t : TypeId) (ho : OkS o) (W : World) (h : Blok W g t (workCells o s b at_ i wt)) :
    Calls Try.prog 74 #[.pointer (some ⟨g, 0, none⟩)] W fun e w' => e = .returned (.bool (userB o)) ∧ W = w' := by
  have m2 : bits .and .u32 (o 29) 31 = o 29 % 32 := and32 5 (by decide) _ (ho 29 (by omega)).1 (by simpa using (ho 29 (by omega)).2)
  have c29 := work_old h 29 (by omega)
  go_enter Try.func74, Try.ntmps74
  go_wp2
  go_ret
  exact ⟨rfl, rfl⟩
theorem flags_is (o s : Sta) (b : Value) (at_ : Int) (i : Ins) (wt : Bool) (g : Nat) (t : TypeId) (ho : OkS o) (W : World) (h : Blok W g t (workCells o s b at_ i wt)) :
    Calls Try.prog 65 #[.pointer (some ⟨g, 0, none⟩)] W fun e w' => e = .returned (.agg (flgCells (flagsI (o 29))).toArray) ∧ Below W.heap.size W w' := by
  have hB : Below W.heap.size W (W.alloc (.cells #[.bool false, .bool false, .bool false, .bool false] 66)) := (Below.refl _ _).alloc (Nat.le_refl _) _
  have hZ : Blok (W.alloc (.cells #[.bool false, .bool false, .bool false, .bool false] 66)) W.heap.size 66 (flgCells ⟨false, false, false, false⟩) := Blok.new W _ _
  have c29 := work_old (h.alloc (.cells #[.bool false, .bool false, .bool false, .bool false] 66)) 29 (by omega)
  have F := Lib.hid (fun W => Flags_is (o 29) (ho 29 (by omega)).1 (ho 29 (by omega)).2 W)
  go_enter Try.func65, Try.ntmps65
  go_upto_region 1 with fail
  generalize W.alloc (.cells #[.bool false, .bool false, .bool false, .bool false] 66) = W1 at hB hZ c29 ⊢
  have hlt := hZ.lt
  go_wp2_with (first | (refine wpList_store_all rfl 66 (.tmp 2) (.tmp 8) rfl W.heap.size _ rfl rfl (hZ.below b2 hlt) rfl (by rw [flg_size]; rfl) rfl ?_; intro w3 B3 g3 _z) | (go_at_call 22; (with_reducible refine (F.out _).mono ?_); rintro e w2 ⟨rfl, b2⟩))
  refine ret_cell 2 66 W.heap.size (flgCells (flagsI (o 29))) _ rfl rfl B3.range Try.underlying66 rfl (by rw [flg_size]; rfl) rfl ⟨rfl, ?_⟩
  exact bgrow (bthen hB b2) g3 (Nat.le_refl _)
def markS (s : Sta) (f : Flg) : Sta := set s 29 (bits .or .u32 (bits .andNot .u32 (s 29) 4026531840) (wordF f))
theorem mark_is (o s : Sta) (b : Value) (at_ : Int) (i : Ins) (wt : Bool) (g : Nat) (t : TypeId) (f : Flg) (W : World) (h : Blok W g t (workCells o s b at_ i wt)) :
    Calls Try.prog 67 #[.pointer (some ⟨g, 0, none⟩), .agg #[.bool f.n, .bool f.z, .bool f.c, .bool f.v]] W fun e w' => e = .returned (.tuple #[]) ∧ Blok w' g t (workCells o (markS s f) b at_ i wt) ∧ W.grownBy w' (some g) := by
  have hlt := h.lt
  have hA := Blok.new W 66 (flgCells f)
  have hB : Below W.heap.size W (W.alloc (.cells #[.bool f.n, .bool f.z, .bool f.c, .bool f.v] 66)) := (Below.refl _ _).alloc (Nat.le_refl _) _
  have hW := h.alloc (.cells #[.bool f.n, .bool f.z, .bool f.c, .bool f.v] 66)
  have R := Lib.hid (fun W => Word_is f.n f.z f.c f.v W)
  change Blok (W.alloc (.cells #[.bool f.n, .bool f.z, .bool f.c, .bool f.v] 66)) W.heap.size 66 (flgCells f) at hA
  go_enter Try.func67, Try.ntmps67
  go_upto_region 1 with fail
  generalize W.alloc (.cells #[.bool f.n, .bool f.z, .bool f.c, .bool f.v] 66) = W1 at hA hB hW ⊢
  have hl1 := hW.lt
  have hl2 := hA.lt
  have c59 : ∀ m, (grow W1 m).cell? ⟨g, 59, none⟩ = some (.int .u32 (s 29)) := fun m => work_new (hW.below (grow_below W1 m) hl1) 29 (by omega)
  have f59 : ∀ m, (grow W1 m).frozen? ⟨g, 59, none⟩ = false := fun m => (hW.below (grow_below W1 m) hl1).frozen 59
  have f0 : ∀ m, (grow W1 m).cell? ⟨W.heap.size, 0, none⟩ = some (.bool f.n) := fun m => (hA.below (grow_below W1 m) hl2).cell 0
  have f1 : ∀ m, (grow W1 m).cell? ⟨W.heap.size, 1, none⟩ = some (.bool f.z) := fun m => (hA.below (grow_below W1 m) hl2).cell 1
  have f2 : ∀ m, (grow W1 m).cell? ⟨W.heap.size, 2, none⟩ = some (.bool f.c) := fun m => (hA.below (grow_below W1 m) hl2).cell 2
  have f3 : ∀ m, (grow W1 m).cell? ⟨W.heap.size, 3, none⟩ = some (.bool f.v) := fun m => (hA.below (grow_below W1 m) hl2).cell 3
  have HS := Lib.hid (fun m v => ((hW.below (grow_below W1 m) hl1).setwork 29 (by omega) v : Blok ((grow W1 m).setCell ⟨g, 59, none⟩ (.int .u32 v)) g t _))
  (refine wp_region_grow_tail 13 (by kernel_rfl) (by kernel_rfl) ?_; simp only [List.take_succ_cons, List.take_zero, List.drop_succ_cons, List.drop_zero]; (repeat (go_big_quiet_step (((go_at_call 81; exact calls_grow (R.out _)))))); refine wpQuiet_nil ?_; intro _ hw'; obtain ⟨ew, hw''⟩ := hw'; subst hw'')
  go_wp2
  go_end0
  exact ⟨rfl, HS.out ew _, grown_then (w := W) (wr := grow W1 ew) (bthen hB (grow_below W1 ew)) (grown_one _ _ _ _)⟩
def ownN (o : Sta) : Int := bankW (o 29)
theorem own_yes (o s : Sta) (b : Value) (at_ : Int) (i : Ins) (wt : Bool) (g : Nat) (t : TypeId) (ho : OkS o) (hz : (ownN o == 0) = false) (W : World) (h : Blok W g t (workCells o s b at_ i wt)) :
    Calls Try.prog 72 #[.pointer (some ⟨g, 0, none⟩)] W fun e w' => e = .returned (.int .i64 (ownN o)) ∧ W = w' := by
  have c29 := work_old h 29 (by omega)
  have R := Lib.hid (fun W => bank_is (o 29) (ho 29 (by omega)).1 (ho 29 (by omega)).2 W)
  unfold ownN at hz ⊢
  generalize bankW (o 29) = n at hz R ⊢
  go_enter Try.func72, Try.ntmps72
  go_wp2_with (go_at_call 37; (with_reducible refine (R.out _).mono ?_); rintro e w1 ⟨rfl, rfl⟩)
  go_ret
  exact ⟨rfl, rfl⟩
def undefP : List PanicEntry := [{ v := .iface 109 (.agg #[]), recovered := false }]
theorem own_no (o s : Sta) (b : Value) (at_ : Int) (i : Ins) (wt : Bool) (g : Nat) (t : TypeId) (ho : OkS o) (hz : (ownN o == 0) = true) (W : World) (h : Blok W g t (workCells o s b at_ i wt)) :
    Calls Try.prog 72 #[.pointer (some ⟨g, 0, none⟩)] W fun e w' => e = .panicked undefP ∧ W = w' := by
  have c29 := work_old h 29 (by omega)
  have R := Lib.hid (fun W => bank_is (o 29) (ho 29 (by omega)).1 (ho 29 (by omega)).2 W)
  unfold ownN at hz
  generalize bankW (o 29) = n at hz R
  go_enter Try.func72, Try.ntmps72
  go_wp2_with (go_at_call 37; (with_reducible refine (R.out _).mono ?_); rintro e w1 ⟨rfl, rfl⟩)
  exact ⟨rfl, rfl, rfl⟩
end Go.Proofs.Ytpfhplhamnohjaa
namespace Go.Proofs.Ytpfhplhamnohjaa
open Go.RowKit

theorem bits32 (p : BinOp) (x y : Int) : 0 ≤ bits p .u32 x y ∧ bits p .u32 x y < 4294967296 := by
  unfold bits
  rw [IntKind.wrap_u32]
  omega
theorem notW_u (a : Int) : 0 ≤ notW a ∧ notW a < 4294967296 := bits32 _ _ _
theorem sumW_u (x y : Int) (k : Bool) : 0 ≤ sumW x y k ∧ sumW x y k < 4294967296 := by unfold sumW; omega
def doW (op a b : Int) (f : Flg) : Int :=
  if op = 1 then bits .and .u32 a b else
  if op = 2 then bits .xor .u32 a b else
  if op = 3 then sumW (a) (notW b) true else
  if op = 4 then sumW (notW a) (b) true else
  if op = 5 then sumW (a) (b) false else
  if op = 6 then sumW (a) (b) f.c else
  if op = 7 then sumW (a) (notW b) f.c else
  if op = 8 then sumW (notW a) (b) f.c else
  if op = 9 then bits .and .u32 a b else
  if op = 10 then bits .xor .u32 a b else
  if op = 11 then sumW (a) (notW b) true else
  if op = 12 then sumW (a) (b) false else
  if op = 13 then bits .or .u32 a b else
  if op = 14 then b else
  if op = 15 then bits .andNot .u32 a b else notW b
def doF (op a b : Int) (s : Bool) (f : Flg) : Flg :=
  if op = 1 then marksF (bits .and .u32 a b) s f.v else
  if op = 2 then marksF (bits .xor .u32 a b) s f.v else
  if op = 3 then sumF (a) (notW b) true else
  if op = 4 then sumF (notW a) (b) true else
  if op = 5 then sumF (a) (b) false else
  if op = 6 then sumF (a) (b) f.c else
  if op = 7 then sumF (a) (notW b) f.c else
  if op = 8 then sumF (notW a) (b) f.c else
  if op = 9 then marksF (bits .and .u32 a b) s f.v else
  if op = 10 then marksF (bits .xor .u32 a b) s f.v else
  if op = 11 then sumF (a) (notW b) true else
  if op = 12 then sumF (a) (b) false else
  if op = 13 then marksF (bits .or .u32 a b) s f.v else
  if op = 14 then marksF (b) s f.v else
  if op = 15 then marksF (bits .andNot .u32 a b) s f.v else marksF (notW b) s f.v
def doB (op : Int) : Bool := !comparesB op
def U32 (x : Int) : Prop := 0 ≤ x ∧ x < 4294967296
theorem doW_u (op a b : Int) (f : Flg) (hb : 0 ≤ b ∧ b < 4294967296) : 0 ≤ doW op a b f ∧ doW op a b f < 4294967296 := by
  unfold doW
  by_cases h1 : op = 1
  · rw [if_pos h1]; exact bits32 _ _ _
  rw [if_neg h1]
  by_cases h2 : op = 2
  · rw [if_pos h2]; exact bits32 _ _ _
  rw [if_neg h2]
  by_cases h3 : op = 3
  · rw [if_pos h3]; exact sumW_u _ _ _
  rw [if_neg h3]
  by_cases h4 : op = 4
  · rw [if_pos h4]; exact sumW_u _ _ _
  rw [if_neg h4]
  by_cases h5 : op = 5
  · rw [if_pos h5]; exact sumW_u _ _ _
  rw [if_neg h5]
  by_cases h6 : op = 6
  · rw [if_pos h6]; exact sumW_u _ _ _
  rw [if_neg h6]
  by_cases h7 : op = 7
  · rw [if_pos h7]; exact sumW_u _ _ _
  rw [if_neg h7]
  by_cases h8 : op = 8
  · rw [if_pos h8]; exact sumW_u _ _ _
  rw [if_neg h8]
  by_cases h9 : op = 9
  · rw [if_pos h9]; exact bits32 _ _ _
  rw [if_neg h9]
  by_cases h10 : op = 10
  · rw [if_pos h10]; exact bits32 _ _ _
  rw [if_neg h10]
  by_cases h11 : op = 11
  · rw [if_pos h11]; exact sumW_u _ _ _
  rw [if_neg h11]
  by_cases h12 : op = 12
  · rw [if_pos h12]; exact sumW_u _ _ _
  rw [if_neg h12]
  by_cases h13 : op = 13
  · rw [if_pos h13]; exact bits32 _ _ _
  rw [if_neg h13]
  by_cases h14 : op = 14
  · rw [if_pos h14]; exact hb
  rw [if_neg h14]
  by_cases h15 : op = 15
  · rw [if_pos h15]; exact bits32 _ _ _
  rw [if_neg h15]
  exact notW_u _
theorem do_is (op a b : Int) (s : Bool) (f : Flg) (ho : 1 ≤ op ∧ op ≤ 16) (ha : 0 ≤ a ∧ a < 4294967296) (hb : 0 ≤ b ∧ b < 4294967296) (W : World) :
    Calls Try.prog 63 #[.int .i64 op, .int .u32 a, .int .u32 b, .bool s, .agg (flgCells f).toArray] W fun e w' => e = .returned (.tuple #[.int .u32 (doW op a b f), .bool (doB op), .agg (flgCells (doF op a b s f)).toArray]) ∧ Below W.heap.size W w' := by
  have h : op = 1 ∨ op = 2 ∨ op = 3 ∨ op = 4 ∨ op = 5 ∨ op = 6 ∨ op = 7 ∨ op = 8 ∨ op = 9 ∨ op = 10 ∨ op = 11 ∨ op = 12 ∨ op = 13 ∨ op = 14 ∨ op = 15 ∨ op = 16 := by omega
  rcases h with rfl | rfl | rfl | rfl | rfl | rfl | rfl | rfl | rfl | rfl | rfl | rfl | rfl | rfl | rfl | rfl
  · exact do1_is a b s f (bits32 _ _ _) W
  · exact do2_is a b s f (bits32 _ _ _) W
  · exact do3_is a b s f ha (notW_u _) W
  · exact do4_is a b s f (notW_u _) hb W
  · exact do5_is a b s f ha hb W
  · exact do6_is a b s f ha hb W
  · exact do7_is a b s f ha (notW_u _) W
  · exact do8_is a b s f (notW_u _) hb W
  · exact do9_is a b s f (bits32 _ _ _) W
  · exact do10_is a b s f (bits32 _ _ _) W
  · exact do11_is a b s f ha (notW_u _) W
  · exact do12_is a b s f ha hb W
  · exact do13_is a b s f (bits32 _ _ _) W
  · exact do14_is a b s f (hb) W
  · exact do15_is a b s f (bits32 _ _ _) W
  · exact do16_is a b s f (notW_u _) W
end Go.Proofs.Ytpfhplhamnohjaa
namespace Go.Proofs.Ytpfhplhamnohjaa
set_option maxHeartbeats 25600000
set_option maxRecDepth 100000
open Go.RowKit

structure InsOk (i : Ins) : Prop where
  rd : 0 ≤ i.rd ∧ i.rd < 16
  rn : 0 ≤ i.rn ∧ i.rn < 16
  rm : 0 ≤ i.rm ∧ i.rm < 16
  rs : 0 ≤ i.rs ∧ i.rs < 16
  ra : 0 ≤ i.ra ∧ i.ra < 16
  imm : 0 ≤ i.imm ∧ i.imm < 4294967296
  shift : 0 ≤ i.shift ∧ i.shift < 4
  amount : 0 ≤ i.amount ∧ i.amount < 32
  list : 0 ≤ i.list ∧ i.list < 65536
def operI (o : Sta) (at_ : Int) (i : Ins) : Int × Bool :=
  if i.form = 1 then (expW i.imm, expC i.imm (bt (o 29) 29))
  else if i.form = 3 then shiftI i.shift (getI o at_ i.rm) (getI o at_ i.rs % 256) (bt (o 29) 29)
  else shiftI (shdI i.shift i.amount).1 (getI o at_ i.rm) (shdI i.shift i.amount).2 (bt (o 29) 29)
theorem getI_u (o : Sta) (at_ n : Int) (ho : OkS o) (hn : 0 ≤ n) : 0 ≤ getI o at_ n ∧ getI o at_ n < 4294967296 := by
  unfold getI
  split
  · omega
  · exact ho _ (regO_lt _ _ hn)
theorem rotW_u (x k : Int) : 0 ≤ rotW x k ∧ rotW x k < 4294967296 := bits32 _ _ _
theorem shiftI_u (k x n : Int) (c : Bool) (hx : 0 ≤ x ∧ x < 4294967296) : 0 ≤ (shiftI k x n c).1 ∧ (shiftI k x n c).1 < 4294967296 := by
  have h1 := bits32 .or (x / 2) 2147483648
  have h2 := rotW_u x (-n)
  unfold shiftI
  split
  · cases c
    · simp; omega
    · simpa using h1
  split
  · exact hx
  split
  · simp only; omega
  split
  · simp only; omega
  split
  · simp only; omega
  · exact h2
theorem operI_u (o : Sta) (at_ : Int) (i : Ins) (ho : OkS o) (hi : InsOk i) : 0 ≤ (operI o at_ i).1 ∧ (operI o at_ i).1 < 4294967296 := by
  unfold operI
  split
  · exact rotW_u _ _
  split
  · exact shiftI_u _ _ _ _ (getI_u o at_ _ ho hi.rm.1)
  · exact shiftI_u _ _ _ _ (getI_u o at_ _ ho hi.rm.1)
theorem shdI_ok (k n : Int) (hk : 0 ≤ k ∧ k < 4) (hn : 0 ≤ n ∧ n < 32) : (0 ≤ (shdI k n).1 ∧ (shdI k n).1 < 5) ∧ (0 ≤ (shdI k n).2 ∧ (shdI k n).2 < 256) := by
  unfold shdI
  repeat' split
  all_goals (constructor <;> constructor <;> simp only <;> omega)
theorem operand_is (o s : Sta) (b : Value) (at_ : Int) (i : Ins) (wt : Bool) (g : Nat) (t : TypeId) (ho : OkS o) (hi : InsOk i) (W : World) (h : Blok W g t (workCells o s b at_ i wt)) :
    Calls Try.prog 62 #[.pointer (some ⟨g, 0, none⟩)] W fun e w' => e = .returned (.tuple #[.int .u32 (operI o at_ i).1, .bool (operI o at_ i).2]) ∧ Below W.heap.size W w' := by
  have hlt := h.lt
  have F := Lib.hid (flags_is o s b at_ i wt g t ho W h)
  have HF := Lib.hid (show (flgCells (flagsI (o 29))).toArray = #[.bool (bt (o 29) 31), .bool (bt (o 29) 30), .bool (bt (o 29) 29), .bool (bt (o 29) 28)] from rfl)
  have HB := Lib.hid (fun w' (k : Below W.heap.size W w') => h.below k hlt)
  rw [HF.out] at F
  clear HF
  generalize bt (o 29) 31 = p1 at F
  generalize bt (o 29) 30 = p2 at F
  generalize bt (o 29) 28 = p4 at F
  have c65 : ∀ w', Below W.heap.size W w' → w'.cell? ⟨g, 65, none⟩ = some (.int .i64 i.form) := fun w' k => (HB.out w' k).cell 65
  have c72 : ∀ w', Below W.heap.size W w' → w'.cell? ⟨g, 72, none⟩ = some (.int .i64 i.shift) := fun w' k => (HB.out w' k).cell 72
  have c68 : ∀ w', Below W.heap.size W w' → w'.cell? ⟨g, 68, none⟩ = some (.int .i64 i.rm) := fun w' k => (HB.out w' k).cell 68
  have c69 : ∀ w', Below W.heap.size W w' → w'.cell? ⟨g, 69, none⟩ = some (.int .i64 i.rs) := fun w' k => (HB.out w' k).cell 69
  have c71 : ∀ w', Below W.heap.size W w' → w'.cell? ⟨g, 71, none⟩ = some (.int .u32 i.imm) := fun w' k => (HB.out w' k).cell 71
  have c73 : ∀ w', Below W.heap.size W w' → w'.cell? ⟨g, 73, none⟩ = some (.int .i64 i.amount) := fun w' k => (HB.out w' k).cell 73
  have G := Lib.hid (fun n (hn : 0 ≤ n ∧ n < 16) w' (k : Below W.heap.size W w') => get_is' o s b at_ i wt g t n ho hn w' (HB.out w' k))
  have HE := Lib.hid (rfl : operI o at_ i = operI o at_ i)
  have fd : ∀ (p q r s : Bool) (V : World), (Instr.field 66 (.agg #[.bool p, .bool q, .bool r, .bool s]) 2).run Try.prog V = .ok (.bool r) V := fun p q r s V => by kernel_rfl
  by_cases h1 : i.form = 1
  · have e : operI o at_ i = (expW i.imm, expC i.imm (bt (o 29) 29)) := by unfold operI; rw [if_pos h1]
    have z : (i.form == 1) = true := by simp [h1]
    rw [e]
    have X := Lib.hid (fun c W => Expand_is i.imm hi.imm.1 hi.imm.2 c W)
    clear HE e h1
    generalize bt (o 29) 29 = cc at F ⊢
    go_enter Try.func62, Try.ntmps62
    go_wp2_with (first | (go_at_call 65; (with_reducible refine (F.out).mono ?_); rintro e w1 ⟨rfl, b1⟩) | (go_at_call 73; (with_reducible refine (X.out _ _).mono ?_); rintro e w2 ⟨rfl, rfl⟩))
    go_ret2
    exact ⟨rfl, b1⟩
  have z1 : (i.form == 1) = false := by simp [h1]
  by_cases h3 : i.form = 3
  · have e : operI o at_ i = shiftI i.shift (getI o at_ i.rm) (getI o at_ i.rs % 256) (bt (o 29) 29) := by unfold operI; rw [if_neg h1, if_pos h3]
    have z : (i.form == 3) = true := by simp [h3]
    rw [e]
    have gm := getI_u o at_ i.rm ho hi.rm.1
    have gs := getI_u o at_ i.rs ho hi.rs.1
    have GM := Lib.hid (G.out i.rm hi.rm)
    have GS := Lib.hid (G.out i.rs hi.rs)
    have m8 : bits .and .u32 (getI o at_ i.rs) 255 = getI o at_ i.rs % 256 := and32 8 (by decide) _ gs.1 (by simpa using gs.2)
    have d8 : wrap64 (getI o at_ i.rs % 256) = getI o at_ i.rs % 256 := by unfold wrap64; omega
    have S := Lib.hid (fun c W => Shift_is i.shift (getI o at_ i.rm) (getI o at_ i.rs % 256) c ⟨hi.shift.1, by have := hi.shift.2; omega⟩ gm (by omega) W)
    clear HE e h1 h3 gm gs G
    generalize getI o at_ i.rm = xm at GM S ⊢
    generalize getI o at_ i.rs = xs at GS m8 d8 S ⊢
    generalize xs % 256 = ns at m8 d8 S ⊢
    generalize bt (o 29) 29 = cc at F ⊢
    go_enter Try.func62, Try.ntmps62
    go_upto_region 6 with (go_at_call 65; (with_reducible refine (F.out).mono ?_); rintro e w1 ⟨rfl, b1⟩)
    have e72 := c72 w1 b1
    have e68 := c68 w1 b1
    have e69 := c69 w1 b1
    clear c65 c72 c68 c69 c71 c73
    go_quiet (first | (go_at_call 78; exact Calls.quiet_of (S.out _ _)) | (go_at_call_of 64 (Value.int IntKind.i64 i.rm); exact Calls.quiet_of (GM.out _ (bdrewN b1 _))) | (go_at_call 64; exact Calls.quiet_of (GS.out _ (bdrewN b1 _))))
    go_wp2
    go_ret2
    exact ⟨rfl, bdrewN b1 _⟩
  have z3 : (i.form == 3) = false := by simp [h3]
  have e : operI o at_ i = shiftI (shdI i.shift i.amount).1 (getI o at_ i.rm) (shdI i.shift i.amount).2 (bt (o 29) 29) := by unfold operI; rw [if_neg h1, if_neg h3]
  rw [e]
  have gm := getI_u o at_ i.rm ho hi.rm.1
  have GM := Lib.hid (G.out i.rm hi.rm)
  have D := Lib.hid (fun W => ShDecode_is i.shift i.amount hi.shift hi.amount W)
  have dk := shdI_ok i.shift i.amount hi.shift hi.amount
  have S := Lib.hid (fun c W => Shift_is (shdI i.shift i.amount).1 (getI o at_ i.rm) (shdI i.shift i.amount).2 c dk.1 gm dk.2 W)
  clear HE e h1 h3 gm G dk
  generalize getI o at_ i.rm = xm at GM S ⊢
  generalize bt (o 29) 29 = cc at F ⊢
  generalize shdI i.shift i.amount = dd at D S ⊢
  obtain ⟨d1, d2⟩ := dd
  dsimp only at D S ⊢
  go_enter Try.func62, Try.ntmps62
  go_upto_region 7 with (go_at_call 65; (with_reducible refine (F.out).mono ?_); rintro e w1 ⟨rfl, b1⟩)
  have e72 := c72 w1 b1
  have e68 := c68 w1 b1
  have e73 := c73 w1 b1
  clear c65 c72 c68 c69 c71 c73
  go_quiet ((go_at_call 79; exact Calls.quiet_of (D.out _)))
  go_wp2_with (first | (go_at_call 78; (with_reducible refine (S.out _ _).mono ?_); rintro e w3 ⟨rfl, k3, rfl⟩) | (go_at_call 64; (with_reducible refine (GM.out _ (bdrewN b1 _)).mono ?_); rintro e w2 ⟨rfl, k2, rfl⟩))
  go_ret2
  exact ⟨rfl, bdrewN b1 _⟩
end Go.Proofs.Ytpfhplhamnohjaa
namespace Go.Proofs.Ytpfhplhamnohjaa
set_option maxHeartbeats 25600000
set_option maxRecDepth 100000
open Go.RowKit

theorem okS_set {s : Sta} (h : OkS s) (j : Nat) {v : Int} (hv : 0 ≤ v ∧ v < 4294967296) : OkS (set s j v) := fun k hk => by
  unfold set
  split
  · exact hv
  · exact h k hk
theorem and3_u (v : Int) : 0 ≤ and3 v ∧ and3 v < 4294967296 := bits32 _ _ _
theorem okS_put {s : Sta} (h : OkS s) (n : Int) {v : Int} (hv : 0 ≤ v ∧ v < 4294967296) : OkS (putS s n v) := by
  unfold putS
  split
  · exact okS_set h _ (and3_u _)
  · exact okS_set h _ hv
theorem okS_mark {s : Sta} (h : OkS s) (f : Flg) : OkS (markS s f) := okS_set h _ (bits32 _ _ _)
def wideV (o : Sta) (at_ : Int) (i : Ins) : Int := if i.op = 18 then bits .or .u32 (i.imm * 65536 % 4294967296) (bits .and .u32 (getI o at_ i.rd) 65535) else i.imm
theorem wideV_u (o : Sta) (at_ : Int) (i : Ins) (hi : InsOk i) : 0 ≤ wideV o at_ i ∧ wideV o at_ i < 4294967296 := by
  unfold wideV
  split
  · exact bits32 _ _ _
  · exact hi.imm
theorem wide_done (o s : Sta) (b : Value) (at_ : Int) (i : Ins) (wt : Bool) (g : Nat) (t : TypeId) (ho : OkS o) (hs : OkS s) (hi : InsOk i) (W : World) (h : Blok W g t (workCells o s b at_ i wt)) :
    Calls Try.prog 48 #[.pointer (some ⟨g, 0, none⟩)] W fun e w' => e = .returned (.tuple #[]) ∧ Blok w' g t (workCells o (putS s i.rd (wideV o at_ i)) b at_ i wt) ∧ W.grownBy w' (some g) := by
  have c71 : W.cell? ⟨g, 71, none⟩ = some (.int .u32 i.imm) := h.cell 71
  have c63 : W.cell? ⟨g, 63, none⟩ = some (.int .i64 i.op) := h.cell 63
  have c66 : W.cell? ⟨g, 66, none⟩ = some (.int .i64 i.rd) := h.cell 66
  have HG := Lib.hid (get_is' o s b at_ i wt g t i.rd ho hi.rd W h)
  have HP := Lib.hid (fun v k => put_is o s b at_ i wt g t i.rd v hs hi.rd (W.drewN k) (h.drewN k))
  have HP0 := Lib.hid (fun v => put_is o s b at_ i wt g t i.rd v hs hi.rd W h)
  have i1 := hi.imm.1
  have i2 := hi.imm.2
  by_cases e : i.op = 18
  · have HE := Lib.hid (show wideV o at_ i = bits .or .u32 (i.imm * 65536 % 4294967296) (bits .and .u32 (getI o at_ i.rd) 65535) by unfold wideV; rw [if_pos e])
    have z : (i.op == 18) = true := by simp [e]
    rw [HE.out]
    clear e HE
    generalize getI o at_ i.rd = x at HG ⊢
    go_enter Try.func48, Try.ntmps48
    go_wp2_with (first | (go_at_call 66; (with_reducible refine (HP.out _ _).mono ?_); rintro e w2 ⟨rfl, B2, g2⟩) | (go_at_call 64; (with_reducible refine (HG.out).mono ?_); rintro e w1 ⟨rfl, k, rfl⟩))
    go_end0
    exact ⟨rfl, B2, grown_then (bdrewN (Below.refl _ _) k) g2⟩
  · have HE := Lib.hid (show wideV o at_ i = i.imm by unfold wideV; rw [if_neg e])
    have z : (i.op == 18) = false := by simp [e]
    rw [HE.out]
    clear e HE HG HP
    go_enter Try.func48, Try.ntmps48
    go_wp2_with (go_at_call 66; (with_reducible refine (HP0.out _).mono ?_); rintro e w2 ⟨rfl, B2, g2⟩)
    go_end0
    exact ⟨rfl, B2, g2⟩
theorem small_done (o s : Sta) (b : Value) (at_ : Int) (i : Ins) (wt : Bool) (g : Nat) (t : TypeId) (ho : OkS o) (hs : OkS s) (hi : InsOk i) (hop : 25 ≤ i.op ∧ i.op ≤ 30) (ha : i.amount < 4) (W : World) (h : Blok W g t (workCells o s b at_ i wt)) :
    Calls Try.prog 50 #[.pointer (some ⟨g, 0, none⟩)] W fun e w' => e = .returned (.tuple #[]) ∧ Blok w' g t (workCells o (putS s i.rd (smallW i.op (getI o at_ i.rm) i.amount)) b at_ i wt) ∧ W.grownBy w' (some g) := by
  have c73 : W.cell? ⟨g, 73, none⟩ = some (.int .i64 i.amount) := h.cell 73
  have c63 : W.cell? ⟨g, 63, none⟩ = some (.int .i64 i.op) := h.cell 63
  have c66 : W.cell? ⟨g, 66, none⟩ = some (.int .i64 i.rd) := h.cell 66
  have c68 : W.cell? ⟨g, 68, none⟩ = some (.int .i64 i.rm) := h.cell 68
  have HG := Lib.hid (fun k => get_is' o s b at_ i wt g t i.rm ho hi.rm (W.drewN k) (h.drewN k))
  have gm := getI_u o at_ i.rm ho hi.rm.1
  have HS := Lib.hid (fun W => Small_is i.op (getI o at_ i.rm) i.amount hop gm ⟨hi.amount.1, ha⟩ W)
  have HP := Lib.hid (fun v k => put_is o s b at_ i wt g t i.rd v hs hi.rd (W.drewN k) (h.drewN k))
  clear gm ha hop
  generalize smallW i.op (getI o at_ i.rm) i.amount = r at HS ⊢
  generalize getI o at_ i.rm = x at HG HS
  go_enter Try.func50, Try.ntmps50
  go_wp2_with fail
  go_quiet (first | (go_at_call 69; exact Calls.quiet_of_same ((HS.out _).mono fun _ _ h => ⟨h.1, h.2.symm⟩)) | (go_at_call 64; exact Calls.quiet_of (HG.out _)))
  go_wp2_with (go_at_call 66; (with_reducible refine (HP.out _ _).mono ?_); rintro e w2 ⟨rfl, B2, g2⟩)
  go_end0
  exact ⟨rfl, B2, grown_then (bdrewN (Below.refl _ _) _) g2⟩
def toI (o : Sta) (at_ : Int) (i : Ins) : Int := if i.op = 43 ∨ i.op = 44 then getI o at_ i.rm else (at_ + 8 + i.imm) % 4294967296
def branchS (o s : Sta) (at_ : Int) (i : Ins) : Sta := putS (if i.op = 42 ∨ i.op = 44 then putS s 14 ((at_ + 4) % 4294967296) else s) 15 (toI o at_ i)
theorem branch_done (o s : Sta) (b : Value) (at_ : Int) (i : Ins) (wt : Bool) (g : Nat) (t : TypeId) (ho : OkS o) (hs : OkS s) (hi : InsOk i) (hop : 41 ≤ i.op ∧ i.op ≤ 44) (W : World) (h : Blok W g t (workCells o s b at_ i wt)) :
    Calls Try.prog 53 #[.pointer (some ⟨g, 0, none⟩)] W fun e w' => e = .returned (.tuple #[]) ∧ Blok w' g t (workCells o (branchS o s at_ i) b at_ i wt) ∧ W.grownBy w' (some g) := by
  have c61 : W.cell? ⟨g, 61, none⟩ = some (.int .u32 at_) := h.cell 61
  have c63 : W.cell? ⟨g, 63, none⟩ = some (.int .i64 i.op) := h.cell 63
  have c68 : W.cell? ⟨g, 68, none⟩ = some (.int .i64 i.rm) := h.cell 68
  have c71 : W.cell? ⟨g, 71, none⟩ = some (.int .u32 i.imm) := h.cell 71
  have HG := Lib.hid (fun k => get_is' o s b at_ i wt g t i.rm ho hi.rm (W.drewN k) (h.drewN k))
  have u4 : 0 ≤ (at_ + 4) % 4294967296 ∧ (at_ + 4) % 4294967296 < 4294967296 := by omega
  have HP := Lib.hid (fun n (hn : 0 ≤ n ∧ n < 16) v W' (h' : Blok W' g t (workCells o s b at_ i wt)) => put_is o s b at_ i wt g t n v hs hn W' h')
  have HP2 := Lib.hid (fun v W' (h' : Blok W' g t (workCells o (putS s 14 ((at_ + 4) % 4294967296)) b at_ i wt)) => put_is o (putS s 14 ((at_ + 4) % 4294967296)) b at_ i wt g t 15 v (okS_put hs 14 u4) (by omega) W' h')
  have HT := Lib.hid (rfl : toI o at_ i = toI o at_ i)
  have HE := Lib.hid (show branchS o s at_ i = putS (if i.op = 42 ∨ i.op = 44 then putS s 14 ((at_ + 4) % 4294967296) else s) 15 (toI o at_ i) from rfl)
  rw [HE.out]
  clear HE HT u4
  have h4 : i.op = 41 ∨ i.op = 42 ∨ i.op = 43 ∨ i.op = 44 := by omega
  rcases h4 with h4 | h4 | h4 | h4
  · have HT := Lib.hid (show toI o at_ i = (at_ + 8 + i.imm) % 4294967296 by simp [toI, h4])
    rw [HT.out]
    simp only [h4, Int.reduceEq, or_self, if_false]
    rw [h4] at c63
    clear h4 hop HT
    go_enter Try.func53, Try.ntmps53
    go_wp2_with fail
    go_quiet (fail)
    go_wp2_with (go_at_call 66; (with_reducible refine (HP.out 15 (by omega) _ _ (h.drewN _)).mono ?_); rintro e w2 ⟨rfl, B2, g2⟩)
    go_end0
    exact ⟨rfl, B2, grown_then (bdrewN (Below.refl _ _) _) g2⟩
  · have HT := Lib.hid (show toI o at_ i = (at_ + 8 + i.imm) % 4294967296 by simp [toI, h4])
    rw [HT.out]
    simp only [h4, true_or, if_true]
    rw [h4] at c63
    clear h4 hop HT
    go_enter Try.func53, Try.ntmps53
    go_wp2_with fail
    go_quiet (fail)
    go_wp2_with (first | (go_at_call_of 66 (Value.int IntKind.i64 14); (with_reducible refine (HP.out 14 (by omega) _ _ (h.drewN _)).mono ?_); rintro e w2 ⟨rfl, B2, g2⟩) | (go_at_call 66; (with_reducible refine (HP2.out _ _ B2).mono ?_); rintro e w3 ⟨rfl, B3, g3⟩))
    go_end0
    exact ⟨rfl, B3, gtrans (grown_then (bdrewN (Below.refl _ _) _) g2) g3⟩
  · have HT := Lib.hid (show toI o at_ i = getI o at_ i.rm by simp [toI, h4])
    rw [HT.out]
    simp only [h4, Int.reduceEq, or_self, if_false]
    rw [h4] at c63
    clear h4 hop HT
    generalize getI o at_ i.rm = x at HG ⊢
    go_enter Try.func53, Try.ntmps53
    go_wp2_with fail
    go_quiet (fail)
    go_wp2_with (first | (go_at_call 64; (with_reducible refine (HG.out _).mono ?_); rintro e w1 ⟨rfl, k, rfl⟩) | (go_at_call 66; (with_reducible refine (HP.out 15 (by omega) _ _ (h.drewN _)).mono ?_); rintro e w2 ⟨rfl, B2, g2⟩))
    go_end0
    exact ⟨rfl, B2, grown_then (bdrewN (Below.refl _ _) _) g2⟩
  · have HT := Lib.hid (show toI o at_ i = getI o at_ i.rm by simp [toI, h4])
    rw [HT.out]
    simp only [h4, or_true, if_true]
    rw [h4] at c63
    clear h4 hop HT
    generalize getI o at_ i.rm = x at HG ⊢
    go_enter Try.func53, Try.ntmps53
    go_wp2_with fail
    go_quiet (fail)
    go_wp2_with (first | (go_at_call 64; (with_reducible refine (HG.out _).mono ?_); rintro e w1 ⟨rfl, k, rfl⟩) | (go_at_call_of 66 (Value.int IntKind.i64 14); (with_reducible refine (HP.out 14 (by omega) _ _ (h.drewN _)).mono ?_); rintro e w2 ⟨rfl, B2, g2⟩) | (go_at_call 66; (with_reducible refine (HP2.out _ _ B2).mono ?_); rintro e w3 ⟨rfl, B3, g3⟩))
    go_end0
    exact ⟨rfl, B3, gtrans (grown_then (bdrewN (Below.refl _ _) _) g2) g3⟩
def sizeI (op : Int) : Int := if op = 31 ∨ op = 32 then 4 else if op = 35 ∨ op = 36 ∨ op = 38 then 2 else 1
theorem size_is (op : Int) (hop : 31 ≤ op ∧ op ≤ 38) (W : World) : Calls Try.prog 71 #[.int .i64 op] W fun e w' => e = .returned (.int .i64 (sizeI op)) ∧ W = w' := by
  have h8 : op = 31 ∨ op = 32 ∨ op = 33 ∨ op = 34 ∨ op = 35 ∨ op = 36 ∨ op = 37 ∨ op = 38 := by omega
  rcases h8 with rfl | rfl | rfl | rfl | rfl | rfl | rfl | rfl
  all_goals
    go_enter Try.func71, Try.ntmps71
    go_wp2
    go_ret
    exact ⟨rfl, rfl⟩
end Go.Proofs.Ytpfhplhamnohjaa
