/- Layer 20: a step over a line of one word; a supervisor call, a word that says nothing, and the returns behind them, over plain data. No program is in sight here. Layer 20: the walk of the law CpuCalls. -/
import Derived.Test.YtpfhplhamnohjaaG17
import Derived.Laws.BitsAllLaws
namespace Go.Proofs.Ytpfhplhamnohjaa
open Go.RowKit

def oneLine (s : Sta) (word : Int) (room : Nat) : LineM := ⟨[(s 28, word)], [], [], 0, room⟩
def oneAsked (s : Sta) (word : Int) (room : Nat) : LineM := ⟨[(s 28, word)], [], [⟨1, s 28, 4, 0, !userB s, 0, 0, 0, 0, 0, 0, false⟩], 0, room - 1⟩
theorem pc_mod {s : Sta} (hs : OkS s) (h3 : bits .and .u32 (s 28) 3 = 0) : s 28 % 4 = 0 := by
  have u := hs 28 (by omega)
  have a := and32 2 (by decide) (s 28) u.1 (by simpa using u.2)
  have a2 : bits .and .u32 (s 28) 3 = s 28 % 4 := by simpa using a
  rw [← a2]; exact h3
theorem step_one (s : Sta) (word : Int) (e4 : s 28 % 4 = 0) (hw : 0 ≤ word ∧ word < 4294967296) (room : Nat) :
    stepO lineF (oneLine s word room) s false = tookO lineF (oneAsked s word room) s false (decodeI word).1 (decodeI word).2 ⟨0, s 28, word, 0, 0, 0, 0, false⟩ := by
  have ac : accLine (oneLine s word room) 1 (s 28) 4 0 (!userB s) = (oneAsked s word room, ⟨word, 0, 0, 0⟩) := by
    have hf : faultI [] 1 (s 28) 4 = ([], ⟨0, 0, 0, 0⟩) := by simp [faultI, oddB, e4, holesI]
    unfold oneLine oneAsked accLine
    rw [hf]
    simp only [Ans.ok, beq_self_eq_true, Bool.and_self, Bool.true_eq_false, if_false, List.nil_append]
    rw [if_neg (by decide)]
    have hl : loadedI (wordI [(s 28, word)] (s 28 - s 28 % 4)) (s 28) 4 = word := by
      have : wordI [(s 28, word)] (s 28 - s 28 % 4) = word := by simp [wordI, hitB]
      rw [this]
      unfold loadedI
      rw [e4]
      simp only [pw8, lmask, if_true, Int.ediv_one]
      have := and32 32 (by decide) word hw.1 (by simpa using hw.2)
      simpa [Int.emod_eq_of_lt hw.1 hw.2] using this
    rw [hl]
  unfold stepO
  rw [if_neg (by simp)]
  dsimp only [lineF]
  rw [ac]
  dsimp only
  rw [if_neg (by simp [Ans.ok])]
/-- the word of a supervisor call -/
def svcW (number : Int) : Int := bits .or .u32 4009754624 (bits .and .u32 number 16777215)
theorem svcW_is (number : Int) (h0 : 0 ≤ number ∧ number < 4294967296) : svcW number = 4009754624 + number % 16777216 := by
  obtain ⟨n, rfl⟩ := Int.eq_ofNat_of_zero_le h0.1
  have a : bits .and .u32 (n : Int) 16777215 = (n : Int) % 16777216 := by
    have := and32 24 (by decide) (n : Int) h0.1 (by simpa using h0.2)
    simpa using this
  unfold svcW
  rw [a]
  have e : (n : Int) % 16777216 = ((n % 16777216 : Nat) : Int) := by omega
  rw [e]
  have o := u32_or_nat 4009754624 (n % 16777216) (by decide) (by omega)
  have t : 4009754624 ||| n % 16777216 = 4009754624 + n % 16777216 := by
    have := Nat.two_pow_add_eq_or_of_lt (i := 24) (b := n % 16777216) (by omega) 239
    simpa using this.symm
  rw [t] at o
  simpa using o
theorem svc_decode (number : Int) (h0 : 0 ≤ number ∧ number < 4294967296) : (decodeI (svcW number)).2 = true ∧ (decodeI (svcW number)).1.op = 45 ∧ (decodeI (svcW number)).1.cond = 14 := by
  have e := svcW_is number h0
  have f1 : fld (svcW number) 31 28 = 14 := by unfold fld; rw [e]; omega
  have f2 : fld (svcW number) 27 25 = 7 := by unfold fld; rw [e]; omega
  have f3 : fld (svcW number) 27 24 = 15 := by unfold fld; rw [e]; omega
  have s : saysI (svcW number) = { zIns with cond := 14, op := 45, imm := fld (svcW number) 23 0 } := by
    unfold saysI
    rw [f1, f2]
    simp only [show ¬ (7 : Int) = 0 by decide, show ¬ (7 : Int) = 1 by decide, show ¬ (7 : Int) = 3 by decide, show ¬ (7 : Int) = 2 by decide, if_false]
    unfold restI
    rw [f3]
    simp
  have m : mayB (saysI (svcW number)) = true := by rw [s]; simp [mayB]
  unfold decodeI
  rw [if_pos m, s]
  exact ⟨rfl, rfl, rfl⟩
theorem and3_id (v : Int) (h0 : 0 ≤ v ∧ v < 4294967296) (h4 : v % 4 = 0) : and3 v = v := by
  obtain ⟨n, rfl⟩ := Int.eq_ofNat_of_zero_le h0.1
  have hn : n < 4294967296 := by omega
  obtain ⟨q, rfl⟩ : ∃ q, n = 4 * q := ⟨n / 4, by omega⟩
  have a := u32_andNot_nat (4 * q) 3 hn (by decide)
  have e : (4 * q) &&& (4294967295 - 3) = 4 * q := by
    have s1 : 4 * q = q <<< 2 := by rw [Nat.shiftLeft_eq]; omega
    have s2 : (4294967295 - 3 : Nat) = 1073741823 <<< 2 := by decide
    rw [s2, s1, ← Nat.shiftLeft_and_distrib]
    have := Nat.and_two_pow_sub_one_eq_mod q 30
    rw [show (2 ^ 30 - 1 : Nat) = 1073741823 by decide] at this
    rw [this, Nat.mod_eq_of_lt (by omega)]
  rw [e] at a
  exact a
theorem exc_mode (c m : Int) (h0 : 0 ≤ c ∧ c < 4294967296) (hm : m = 19 ∨ m = 27) : bits .or .u32 (bits .or .u32 (bits .andNot .u32 c 31) m) 128 % 32 = m := by
  obtain ⟨n, rfl⟩ := Int.eq_ofNat_of_zero_le h0.1
  have hn : n < 4294967296 := by omega
  obtain ⟨k, rfl, hk⟩ : ∃ k : Nat, m = (k : Int) ∧ (k = 19 ∨ k = 27) := by
    rcases hm with rfl | rfl
    · exact ⟨19, rfl, Or.inl rfl⟩
    · exact ⟨27, rfl, Or.inr rfl⟩
  have a := u32_andNot_nat n 31 hn (by decide)
  have l1 : n &&& (4294967295 - 31) ≤ n := Nat.and_le_left
  have hk32 : k < 32 := by omega
  have b := u32_or_nat (n &&& (4294967295 - 31)) k (by omega) (by omega)
  have l2 : (n &&& (4294967295 - 31)) ||| k < 2 ^ 32 := Nat.or_lt_two_pow (by omega) (by omega)
  have d := u32_or_nat ((n &&& (4294967295 - 31)) ||| k) 128 (by simpa using l2) (by decide)
  have e31 : ((31 : Nat) : Int) = 31 := rfl
  have e128 : ((128 : Nat) : Int) = 128 := rfl
  rw [e31] at a
  rw [e128] at d
  rw [a, b, d]
  have z : ((n &&& (4294967295 - 31)) ||| k ||| 128) % 2 ^ 5 = k := by
    rw [Nat.or_mod_two_pow, Nat.or_mod_two_pow, Nat.and_mod_two_pow]
    rw [show (4294967295 - 31) % 2 ^ 5 = 0 by decide, Nat.and_zero, Nat.zero_or, Nat.or_zero]
    omega
  omega
/-- an exception of SVC (k = 1) or UND (k = 3), and the return behind it -/
theorem exc_ret (s : Sta) (hs : OkS s) (e4 : s 28 % 4 = 0) (hb : (bankB (s 29 % 32)).2 = true) (m v : Int) (k : Nat) (hm : (m = 19 ∧ k = 1) ∨ (m = 27 ∧ k = 3)) :
    (entS s m ((s 28 + 4) % 4294967296) v) 28 = v ∧ (entS s m ((s 28 + 4) % 4294967296) v) (23 + k) = s 29 ∧ (retV (entS s m ((s 28 + 4) % 4294967296) v) 0).2 = 0 ∧
    staCells (retV (entS s m ((s 28 + 4) % 4294967296) v) 0).1 = staCells (set (set (set s 28 ((s 28 + 4) % 4294967296)) (18 + k) ((s 28 + 4) % 4294967296)) (23 + k) (s 29)) := by
  have u := hs 28 (by omega)
  have p4 : 0 ≤ (s 28 + 4) % 4294967296 ∧ (s 28 + 4) % 4294967296 < 4294967296 := by omega
  have p5 : (s 28 + 4) % 4294967296 % 4 = 0 := by omega
  have mode := exc_mode (s 29) m (hs 29 (by omega)) (by omega)
  have a3 := and3_id _ p4 p5
  generalize (s 28 + 4) % 4294967296 = n at p4 p5 a3 ⊢
  have bk : (bankB m).1 = k := by rcases hm with ⟨rfl, rfl⟩ | ⟨rfl, rfl⟩ <;> rfl
  have kk : k = 1 ∨ k = 3 := by omega
  have eE : entS s m n v = set (set (set (set s (23 + k) (s 29)) (18 + k) n) 29 (bits .or .u32 (bits .or .u32 (bits .andNot .u32 (s 29) 31) m) 128)) 28 v := by
    unfold entS
    rw [bk]
    rfl
  have w29 : (entS s m n v) 29 = bits .or .u32 (bits .or .u32 (bits .andNot .u32 (s 29) 31) m) 128 := by rw [eE]; simp [set]
  have bw : bankW ((entS s m n v) 29) = k := by rw [w29]; unfold bankW; rw [mode]; exact bk
  have w23 : (entS s m n v) (23 + k) = s 29 := by rw [eE]; rcases kk with rfl | rfl <;> simp [set]
  have w18 : (entS s m n v) (18 + k) = n := by rw [eE]; rcases kk with rfl | rfl <;> simp [set]
  have bB : backB (entS s m n v) = true := by
    unfold backB
    rw [bw, Int.toNat_natCast, w23, hb]
    rcases kk with rfl | rfl <;> rfl
  have rv : regV (entS s m n v) 14 = n := by
    unfold regV
    rw [if_pos (by omega)]
    unfold regO
    rw [if_neg (by omega), if_neg (by omega), if_pos rfl, bw, Int.toNat_natCast]
    exact w18
  have rt : retV (entS s m n v) 0 = (backT (entS s m n v) n, 0) := by
    unfold retV
    rw [if_pos bB, rv, Int.sub_zero, Int.emod_eq_of_lt p4.1 p4.2]
  refine ⟨by rw [eE]; simp [set], w23, by rw [rt], ?_⟩
  rw [rt, staCells_map, staCells_map]
  refine List.map_congr_left fun i hi => ?_
  have hi30 : i < 30 := by simpa using hi
  congr 1
  unfold backT
  rw [bw, Int.toNat_natCast, w23, a3, eE]
  unfold set
  rcases kk with rfl | rfl
  · by_cases h28 : i = 28
    · simp [h28]
    by_cases h29 : i = 29
    · simp [h29]
    by_cases h19 : i = 19
    · simp [h19]
    by_cases h24 : i = 24
    · simp [h24]
    simp [h28, h29, h19, h24]
  · by_cases h28 : i = 28
    · simp [h28]
    by_cases h29 : i = 29
    · simp [h29]
    by_cases h19 : i = 21
    · simp [h19]
    by_cases h24 : i = 26
    · simp [h24]
    simp [h28, h29, h19, h24]
theorem step_svc (s : Sta) (number : Int) (h0 : 0 ≤ number ∧ number < 4294967296) (e4 : s 28 % 4 = 0) (room : Nat) :
    (stepO lineF (oneLine s (svcW number) room) s false).2 = (entS s 19 ((s 28 + 4) % 4294967296) 8, ⟨2, s 28, svcW number, 0, 0, 0, 0, false⟩) := by
  have e := svcW_is number h0
  obtain ⟨a, b, c⟩ := svc_decode number h0
  rw [step_one s (svcW number) e4 (by rw [e]; omega) room]
  unfold tookO
  rw [if_neg (by rw [a]; simp), if_neg (by rw [c]; simp [passedB]), if_pos b]
theorem step_und (s : Sta) (word : Int) (hw : 0 ≤ word ∧ word < 4294967296) (e4 : s 28 % 4 = 0) (hd : (decodeI word).2 = false) (room : Nat) :
    (stepO lineF (oneLine s word room) s false).2 = (entS s 27 ((s 28 + 4) % 4294967296) 4, ⟨1, s 28, word, 0, 0, 0, 0, false⟩) := by
  rw [step_one s word e4 hw room]
  unfold tookO
  rw [if_pos hd]
theorem set_comm (s : Sta) {i j : Nat} (h : i ≠ j) (a b : Int) : set (set s i a) j b = set (set s j b) i a := by
  funext k
  unfold set
  by_cases h1 : k = i
  · subst h1; simp [h]
  · by_cases h2 : k = j
    · subst h2; simp [h1]
    · simp [h1, h2]
theorem made_bank (s : Sta) : (bankB (madeS s 29 % 32)).2 = true := by
  unfold madeS
  split
  · rename_i h
    unfold isL at h
    simp only [Bool.and_eq_true, beq_iff_eq] at h
    exact h.1.1.1.1.1.1.1.1
  · decide
theorem made_pc4 (s : Sta) (hs : OkS s) : madeS s 28 % 4 = 0 := by
  refine pc_mod (okS_made hs) ?_
  unfold madeS
  split
  · rename_i h
    unfold isL at h
    simp only [Bool.and_eq_true, beq_iff_eq] at h
    exact h.1.1.1.1.1.1.1.2
  · decide
end Go.Proofs.Ytpfhplhamnohjaa
namespace Go.Proofs.Ytpfhplhamnohjaa
open Go.RowKit

set_option linter.unusedSimpArgs false
theorem cpu_of {w : World} {g : Nat} {t : TypeId} {a b : Sta} {on : Bool} (h : Blok w g t (cpuCells a on)) (e : staCells a = staCells b) : Blok w g t (cpuCells b on) := by
  unfold cpuCells at h ⊢
  rw [← e]; exact h
set_option maxHeartbeats 25600000 in
set_option maxRecDepth 100000 in
theorem calls_walk (s : Sta) (hs : OkS s) (number word : Int) (hn : 0 ≤ number ∧ number < 4294967296) (hw : 0 ≤ word ∧ word < 4294967296) (w : World) :
    Calls Try.prog 6 #[.agg (staCells s).toArray, .int .u32 number, .int .u32 word] w fun e w' => e = .returned (.bool true) ∧ Below w.heap.size w w' := by
  have hX : Blok (w.alloc (.cells (staCells s).toArray 26)) w.heap.size 26 (staCells s) := Blok.new w _ (staCells s)
  have hB : Below w.heap.size w (w.alloc (.cells (staCells s).toArray 26)) := (Below.refl _ _).alloc (Nat.le_refl _) _
  have MD := Lib.hid (fun w => made_is s hs w)
  have LV := Lib.hid (fun w => live_is w)
  have DJ := Lib.hid (fun w => Decode_is word hw.1 hw.2 w)
  have UN := Lib.hid (fun (s3 : Sta) e4 hd room => step_und s3 word hw e4 hd room)
  generalize decodeI word = dr at DJ UN
  obtain ⟨i, ok⟩ := dr
  dsimp only at DJ UN
  have ok0 := okS_made hs
  have e4 := made_pc4 s hs
  have hb := made_bank s
  generalize madeS s = s0 at MD ok0 e4 hb
  have svu : 0 ≤ svcW number ∧ svcW number < 4294967296 := bits32 .or _ _
  have SV := Lib.hid (fun room => step_svc s0 number hn e4 room)
  have SE : bits .or .u32 4009754624 (bits .and .u32 number 16777215) = svcW number := rfl
  generalize svcW number = wd at SV SE svu
  obtain ⟨x1, x2, x3, x4⟩ := exc_ret s0 ok0 e4 hb 19 8 1 (Or.inl ⟨rfl, rfl⟩)
  have p4 : 0 ≤ (s0 28 + 4) % 4294967296 ∧ (s0 28 + 4) % 4294967296 < 4294967296 := by omega
  have ok1 : OkS (entS s0 19 ((s0 28 + 4) % 4294967296) 8) := okS_ent ok0 _ p4 (by omega)
  have n4 : (s0 28 + 4) % 4294967296 % 4 = 0 := by omega
  go_enter Try.func6, Try.ntmps6
  go_upto_region 1 with fail
  generalize w.alloc (.cells (staCells s).toArray 26) = w1 at hX hB ⊢
  go_upto_region 4 with (first | (go_at_call 10; (with_reducible refine (LV.out _).mono ?_); rintro e w3 ⟨rfl, b3⟩) | (go_at_call 9; (with_reducible refine (MD.out _).mono ?_); rintro e w2 ⟨gc, rfl, hC, b2, l2⟩) | (refine wpList_load_mid rfl 26 (.tmp 3) rfl w.heap.size 0 rfl (staCells s) _ hX.range Try.underlying26 rfl (by rw [sta_size, staCells_len]) ?_))
  have hC3 := hC.below b3 hC.lt
  have hX3 := (hX.below b2 hX.lt).below b3 (Nat.lt_of_lt_of_le hX.lt b2.size)
  have B3 := bthen (bthen hB b2) b3
  have gl := hX.lt
  have lg : w.heap.size < gc := by omega
  clear hX hB hC b2 b3 l2
  have SS := Lib.hid (State_is s0 false gc 85 w3 hC3)
  go_upto_region 5 with (first | (refine wpList_store_sta rfl (.tmp 3) (.tmp 24) rfl w.heap.size s0 s rfl rfl hX4 ?_; intro w5 B5 g5) | (go_at_call 11; (with_reducible refine (SS.out).mono ?_); rintro e w4 ⟨rfl, b4⟩; have hX4 := hX3.below b4 hX3.lt))
  have hC5 := (hC3.below b4 hC3.lt).grown g5 (fun e => by have := Option.some.inj e; omega)
  have BB5 : Below w.heap.size w w5 := bgrow (bthen B3 b4) g5 (Nat.le_refl _)
  clear hC3 hX3 hX4 B3 b4 g5 SS gl
  go_upto_region 6 with fail
  clear SE
  have c28 : w5.cell? ⟨w.heap.size, 28, none⟩ = some (.int .u32 (s0 28)) := sta_cell B5 28 (by omega)
  have hPb : Blok (w5.alloc (.cells #[.int .u32 (s0 28), .int .u32 wd] 69)) w5.heap.size 69 (putC (s0 28, wd)) := Blok.new w5 _ _
  have b9 : Below w5.heap.size w5 (w5.alloc (.cells #[.int .u32 (s0 28), .int .u32 wd] 69)) := (Below.refl _ _).alloc (Nat.le_refl _) _
  have AR : ArgRow putC (w5.alloc (.cells #[.int .u32 (s0 28), .int .u32 wd] 69)) (.slice (some ⟨w5.heap.size, 0, none⟩) 1 1) [(s0 28, wd)] := .inr ⟨_, 1, rfl, fun j y hy => by rw [add0, hPb.cell]; simpa using hy⟩
  have NL := Lib.hid (NewLine_is [(s0 28, wd)] [] (.slice (some ⟨w5.heap.size, 0, none⟩) 1 1) (.slice none 0 0) 100 (fun p hp => by rw [List.mem_singleton.1 hp]; exact ⟨ok0 28 (by omega), svu⟩) (fun h hh => by cases hh) (by simp) (by simp) (by omega) _ AR (.inl ⟨rfl, rfl⟩))
  have hCz := hC5.below b9 hC5.lt
  have STP := Lib.hid (fun gL OL wA (b : Below (w5.alloc (.cells #[.int .u32 (s0 28), .int .u32 wd] 69)).heap.size (w5.alloc (.cells #[.int .u32 (s0 28), .int .u32 wd] 69)) wA) (hI : IsLine gL ⟨[(s0 28, wd)], [], [], 0, 100⟩ OL wA) (nC : ¬ OL gc) => lineStep gL ⟨[(s0 28, wd)], [], [], 0, 100⟩ OL s0 false gc 85 ok0 wA (hCz.below b hCz.lt) hI nC (by simp))
  have q := SV.out 100
  have ST2 : ∀ gL OL wA, Below (w5.alloc (.cells #[.int .u32 (s0 28), .int .u32 wd] 69)).heap.size (w5.alloc (.cells #[.int .u32 (s0 28), .int .u32 wd] 69)) wA → IsLine gL ⟨[(s0 28, wd)], [], [], 0, 100⟩ OL wA → ¬ OL gc →
      Calls Try.prog 13 #[.pointer (some ⟨gc, 0, none⟩), .iface 33 (.pointer (some ⟨gL, 0, none⟩))] wA (fun e w' => e = .returned (.tuple #[.agg #[.int .i64 2, .int .u32 (s0 28), .int .u32 wd, .int .u32 0, .int .i64 0, .int .i64 0, .int .i64 0, .bool false], .int .i64 0]) ∧ Blok w' gc 85 (cpuCells (entS s0 19 ((s0 28 + 4) % 4294967296) 8) false) ∧ GrownS wA w' (fun j => j = gc ∨ OL j)) := fun gL OL wA b hI nC => (STP.out gL OL wA b hI nC).mono (fun e w' h => by
    unfold oneLine at q
    obtain ⟨h1, h2, O', _, h4, _⟩ := h
    rw [q] at h1 h2
    exact ⟨h1, h2, h4⟩)
  have SZ := Lib.hid ST2
  clear STP ST2 q hPb AR
  have cgl := hC5.lt
  go_upto_region 7 with (first | (go_at_call 13; (with_reducible refine (SZ.out gL OL _ bA hI (fun q => by have := nO _ q; have := b9.size; omega)).mono ?_); rintro e wB ⟨rfl, hCB, gB⟩) | (go_at_call 12; (with_reducible refine (NL.out).mono ?_); rintro e wA ⟨gL, OL, rfl, hI, bA, nO⟩))
  have hXA := (B5.below b9 B5.lt).below bA (Nat.lt_of_lt_of_le B5.lt b9.size)
  have nX : ¬ (w.heap.size = gc ∨ OL w.heap.size) := fun q => q.elim (fun e => by omega) (fun o => by have := nO _ o; have := b9.size; have := B5.lt; omega)
  have hXB := hXA.gs gB nX
  have hT : Blok (wB.alloc (.cells #[.int .i64 2, .int .u32 (s0 28), .int .u32 wd, .int .u32 0, .int .i64 0, .int .i64 0, .int .i64 0, .bool false] 38)) wB.heap.size 38 (tkCells ⟨2, s0 28, wd, 0, 0, 0, 0, false⟩) := Blok.new wB _ (tkCells ⟨2, s0 28, wd, 0, 0, 0, 0, false⟩)
  have bT : Below wB.heap.size wB (wB.alloc (.cells #[.int .i64 2, .int .u32 (s0 28), .int .u32 wd, .int .u32 0, .int .i64 0, .int .i64 0, .int .i64 0, .bool false] 38)) := (Below.refl _ _).alloc (Nat.le_refl _) _
  have hXC := hXB.below bT hXB.lt
  have hCC := hCB.below bT hCB.lt
  have BBC : Below w.heap.size w (wB.alloc (.cells #[.int .i64 2, .int .u32 (s0 28), .int .u32 wd, .int .u32 0, .int .i64 0, .int .i64 0, .int .i64 0, .bool false] 38)) := by
    have BBA := bthen (bthen BB5 b9) bA
    have z := BBA.size
    exact (BBA.trans (gB.bel z (fun j o => o.elim (fun e => by omega) (fun o => by have := nO _ o; have := b9.size; have := BB5.size; omega)))).trans (bT.mono (Nat.le_trans z gB.size))
  have tl : w.heap.size < wB.heap.size ∧ gc < wB.heap.size := ⟨hXB.lt, hCB.lt⟩
  clear hXA nX hXB hCB gB hI bA nO SZ NL b9 hCz c28 hC5 B5 BB5 bT cgl
  generalize wB.alloc (.cells #[.int .i64 2, .int .u32 (s0 28), .int .u32 wd, .int .u32 0, .int .i64 0, .int .i64 0, .int .i64 0, .bool false] 38) = V1 at hT hXC hCC BBC ⊢
  generalize wB.heap.size = tk at hT tl ⊢
  have RT := Lib.hid (fun W h => Return_is (entS s0 19 ((s0 28 + 4) % 4294967296) 8) false gc 85 0 ok1 W h)
  rw [x3] at RT
  have XR := Lib.hid x4
  clear x3 x4
  generalize entS s0 19 ((s0 28 + 4) % 4294967296) 8 = s1 at hCC x1 x2 ok1 RT XR
  have SS := Lib.hid (State_is s1 false gc 85 V1 hCC)
  go_upto_region 8 with (first | (refine wpList_store_sta rfl (.tmp 11) (.tmp 41) rfl V2.heap.size s1 zSta rfl rfl hs1 ?_; intro V3 B3 g3) | (go_at_call 11; (with_reducible refine (SS.out).mono ?_); rintro e V2 ⟨rfl, b2⟩; have hs1 := Blok.new V2 26 (staCells zSta)))
  have b3 : Below V1.heap.size V1 V3 := bgrow (b2.alloc b2.size (.cells #[.int .u32 0, .int .u32 0, .int .u32 0, .int .u32 0, .int .u32 0, .int .u32 0, .int .u32 0, .int .u32 0, .int .u32 0, .int .u32 0, .int .u32 0, .int .u32 0, .int .u32 0, .int .u32 0, .int .u32 0, .int .u32 0, .int .u32 0, .int .u32 0, .int .u32 0, .int .u32 0, .int .u32 0, .int .u32 0, .int .u32 0, .int .u32 0, .int .u32 0, .int .u32 0, .int .u32 0, .int .u32 0, .int .u32 0, .int .u32 0] 26)) g3 b2.size
  have hX3 := hXC.below b3 hXC.lt
  have hC3 := hCC.below b3 hCC.lt
  have hT3 := hT.below b3 hT.lt
  have BB3 := bthen BBC b3
  clear hXC hCC hT BBC b3 b2 g3 hs1 SS
  generalize V2.heap.size = nb at B3 ⊢
  have e28 : V3.cell? ⟨nb, 28, none⟩ = some (.int .u32 8) := (sta_cell B3 28 (by omega)).trans (by rw [x1])
  have e24 : V3.cell? ⟨nb, 24, none⟩ = some (.int .u32 (s0 29)) := (sta_cell B3 24 (by omega)).trans (by rw [show (24 : Nat) = 23 + 1 from rfl, x2])
  have c28 : V3.cell? ⟨w.heap.size, 28, none⟩ = some (.int .u32 (s0 28)) := sta_cell hX3 28 (by omega)
  have c29 : V3.cell? ⟨w.heap.size, 29, none⟩ = some (.int .u32 (s0 29)) := sta_cell hX3 29 (by omega)
  have t0 : V3.cell? ⟨tk, 0, none⟩ = some (.int .i64 2) := hT3.cell 0
  have t1 : V3.cell? ⟨tk, 1, none⟩ = some (.int .u32 (s0 28)) := hT3.cell 1
  have t2 : V3.cell? ⟨tk, 2, none⟩ = some (.int .u32 wd) := hT3.cell 2
  have t3 : V3.cell? ⟨tk, 3, none⟩ = some (.int .u32 0) := hT3.cell 3
  have t4 : V3.cell? ⟨tk, 4, none⟩ = some (.int .i64 0) := hT3.cell 4
  have t5 : V3.cell? ⟨tk, 5, none⟩ = some (.int .i64 0) := hT3.cell 5
  have t6 : V3.cell? ⟨tk, 6, none⟩ = some (.int .i64 0) := hT3.cell 6
  have t7 : V3.cell? ⟨tk, 7, none⟩ = some (.bool false) := hT3.cell 7
  go_upto_region 10 with (first | (go_at_call 15; (with_reducible refine (RT.out _ hC3).mono ?_); rintro e V4 ⟨rfl, hC4, g4⟩) | (go_at_call 14; (with_reducible refine (no_is _ _).mono ?_); rintro e V5 ⟨rfl, rfl⟩))
  have gw : Below V3.heap.size V3 V4 ∨ True := Or.inr trivial
  clear gw
  have hX4 := hX3.grown g4 (fun e => by have := Option.some.inj e; omega)
  have hT4 := hT3.grown g4 (fun e => by have := Option.some.inj e; omega)
  have BB4 : Below w.heap.size w V4 := bgrow BB3 g4 (Nat.le_of_lt lg)
  have hC5 := cpu_of hC4 XR.out
  have ok3 : OkS (set (set (set s0 28 ((s0 28 + 4) % 4294967296)) (18 + 1) ((s0 28 + 4) % 4294967296)) (23 + 1) (s0 29)) := okS_set (okS_set (okS_set ok0 _ p4) _ p4) _ (ok0 29 (by omega))
  have s28 : (set (set (set s0 28 ((s0 28 + 4) % 4294967296)) (18 + 1) ((s0 28 + 4) % 4294967296)) (23 + 1) (s0 29)) 28 = (s0 28 + 4) % 4294967296 := by simp [set]
  have s29 : (set (set (set s0 28 ((s0 28 + 4) % 4294967296)) (18 + 1) ((s0 28 + 4) % 4294967296)) (23 + 1) (s0 29)) 29 = s0 29 := by simp [set]
  clear hX3 hC3 hT3 BB3 hC4 g4 XR RT e28 e24 c28 c29 B3 x1 x2 t0 t1 t2 t3 t4 t5 t6 t7 ok1
  have c28 : V4.cell? ⟨w.heap.size, 28, none⟩ = some (.int .u32 (s0 28)) := sta_cell hX4 28 (by omega)
  go_upto_region 11 with (first | (refine wpList_load_mid rfl 26 (.tmp 3) rfl w.heap.size 0 rfl (staCells s0) _ hX4.range Try.underlying26 rfl (by rw [sta_size, staCells_len]) ?_) | (refine wpList_store_sta rfl (.tmp 12) (.tmp 72) rfl V4.heap.size s0 zSta rfl rfl (Blok.new V4 26 (staCells zSta)) ?_; intro V6 B6 g6))
  have b6 : Below V4.heap.size V4 V6 := bgrow ((Below.refl _ _).alloc (Nat.le_refl _) (.cells #[.int .u32 0, .int .u32 0, .int .u32 0, .int .u32 0, .int .u32 0, .int .u32 0, .int .u32 0, .int .u32 0, .int .u32 0, .int .u32 0, .int .u32 0, .int .u32 0, .int .u32 0, .int .u32 0, .int .u32 0, .int .u32 0, .int .u32 0, .int .u32 0, .int .u32 0, .int .u32 0, .int .u32 0, .int .u32 0, .int .u32 0, .int .u32 0, .int .u32 0, .int .u32 0, .int .u32 0, .int .u32 0, .int .u32 0, .int .u32 0] 26)) g6 (Nat.le_refl _)
  have hX6 := hX4.below b6 hX4.lt
  have hC6 := hC5.below b6 hC5.lt
  have hT6 := hT4.below b6 hT4.lt
  have BB6 := bthen BB4 b6
  have wl : tk < V4.heap.size ∧ gc < V4.heap.size ∧ w.heap.size < V4.heap.size := ⟨hT4.lt, hC5.lt, hX4.lt⟩
  clear hX4 hC5 hT4 BB4 b6 g6 c28
  generalize V4.heap.size = wb at B6 wl ⊢
  have c28 : V6.cell? ⟨w.heap.size, 28, none⟩ = some (.int .u32 (s0 28)) := sta_cell hX6 28 (by omega)
  have d28 : V6.cell? ⟨wb, 28, none⟩ = some (.int .u32 (s0 28)) := sta_cell B6 28 (by omega)
  have z28 := B6.frozen 28
  go_upto_region 12 with fail
  have B7 := B6.setsta 28 ((s0 28 + 4) % 4294967296)
  have hX7 := hX6.far (p := ⟨wb, 28, none⟩) (by simp; omega) (.int .u32 ((s0 28 + 4) % 4294967296))
  have hC7 := hC6.far (p := ⟨wb, 28, none⟩) (by simp; omega) (.int .u32 ((s0 28 + 4) % 4294967296))
  have hT7 := hT6.far (p := ⟨wb, 28, none⟩) (by simp; omega) (.int .u32 ((s0 28 + 4) % 4294967296))
  have BB7 := bgrow BB6 (grown_one V6 wb 28 (.int .u32 ((s0 28 + 4) % 4294967296))) (by omega)
  clear B6 hX6 hC6 hT6 BB6 c28 d28 z28
  generalize V6.setCell ⟨wb, 28, none⟩ (.int .u32 ((s0 28 + 4) % 4294967296)) = V7 at B7 hX7 hC7 hT7 BB7 ⊢
  have c28 : V7.cell? ⟨w.heap.size, 28, none⟩ = some (.int .u32 (s0 28)) := sta_cell hX7 28 (by omega)
  have d19 := sta_cell B7 19 (by omega)
  have z19 := B7.frozen 19
  go_upto_region 13 with fail
  have B8 := B7.setsta 19 ((s0 28 + 4) % 4294967296)
  have hX8 := hX7.far (p := ⟨wb, 19, none⟩) (by simp; omega) (.int .u32 ((s0 28 + 4) % 4294967296))
  have hC8 := hC7.far (p := ⟨wb, 19, none⟩) (by simp; omega) (.int .u32 ((s0 28 + 4) % 4294967296))
  have hT8 := hT7.far (p := ⟨wb, 19, none⟩) (by simp; omega) (.int .u32 ((s0 28 + 4) % 4294967296))
  have BB8 := bgrow BB7 (grown_one V7 wb 19 (.int .u32 ((s0 28 + 4) % 4294967296))) (by omega)
  clear B7 hX7 hC7 hT7 BB7 c28 d19 z19
  generalize V7.setCell ⟨wb, 19, none⟩ (.int .u32 ((s0 28 + 4) % 4294967296)) = V8 at B8 hX8 hC8 hT8 BB8 ⊢
  have c29 : V8.cell? ⟨w.heap.size, 29, none⟩ = some (.int .u32 (s0 29)) := sta_cell hX8 29 (by omega)
  have d24 := sta_cell B8 24 (by omega)
  have z24 := B8.frozen 24
  go_upto_region 14 with fail
  have B9 := B8.setsta 24 (s0 29)
  have hX9 := hX8.far (p := ⟨wb, 24, none⟩) (by simp; omega) (.int .u32 (s0 29))
  have hC9 := hC8.far (p := ⟨wb, 24, none⟩) (by simp; omega) (.int .u32 (s0 29))
  have hT9 := hT8.far (p := ⟨wb, 24, none⟩) (by simp; omega) (.int .u32 (s0 29))
  have BB9 := bgrow BB8 (grown_one V8 wb 24 (.int .u32 (s0 29))) (by omega)
  clear B8 hX8 hC8 hT8 BB8 c29 d24 z24
  generalize V8.setCell ⟨wb, 24, none⟩ (.int .u32 (s0 29)) = V9 at B9 hX9 hC9 hT9 BB9 ⊢
  change Blok V9 gc _ (cpuCells (set (set (set s0 28 ((s0 28 + 4) % 4294967296)) 19 ((s0 28 + 4) % 4294967296)) 24 (s0 29)) false) at hC9
  change OkS (set (set (set s0 28 ((s0 28 + 4) % 4294967296)) 19 ((s0 28 + 4) % 4294967296)) 24 (s0 29)) at ok3
  change (set (set (set s0 28 ((s0 28 + 4) % 4294967296)) 19 ((s0 28 + 4) % 4294967296)) 24 (s0 29)) 28 = _ at s28
  change (set (set (set s0 28 ((s0 28 + 4) % 4294967296)) 19 ((s0 28 + 4) % 4294967296)) 24 (s0 29)) 29 = _ at s29
  generalize set (set (set s0 28 ((s0 28 + 4) % 4294967296)) 19 ((s0 28 + 4) % 4294967296)) 24 (s0 29) = s3 at B9 hC9 ok3 s28 s29
  have f4 : s3 28 % 4 = 0 := by rw [s28]; exact n4
  have fb : (bankB (s3 29 % 32)).2 = true := by rw [s29]; exact hb
  clear s28 s29 n4
  have hS : ∀ w', (∃ m, w' = grow V9 m) → w'.rangeAt wb 0 (staCells s3) := fun w' ⟨m, e⟩ => by rw [e]; exact (B9.below (grow_below V9 m) B9.lt).range
  have ST := Lib.hid (fun m => State_is s3 false gc 85 (grow V9 m) (hC9.below (grow_below V9 m) hC9.lt))
  have nq := neq_sta s3
  refine wp_region_grow (by kernel_rfl) (by kernel_rfl) ?_
  repeat (first | ((refine wpQuiet_load_mid (by rfl) 26 (.tmp 12) rfl wb 0 rfl (staCells s3) _ hS Try.underlying26 rfl (by rw [sta_size, staCells_len]) ?_); (try simp only [Act.put, List.setIfInBounds_toArray, List.set_cons_zero, List.set_cons_succ])) | go_big_quiet_step ((go_at_call 11; exact calls_grow (ST.out _))))
  refine wpQuiet_nil ?_
  intro _ hw'
  obtain ⟨ew, hw''⟩ := hw'
  subst hw''
  have BA := B9.below (grow_below V9 ew) B9.lt
  have hCA := hC9.below (grow_below V9 ew) hC9.lt
  have hTA := hT9.below (grow_below V9 ew) hT9.lt
  have BBA := bthen BB9 (grow_below V9 ew)
  clear hX9 B9 hC9 hT9 BB9 hS ST nq
  generalize grow V9 ew = VA at BA hCA hTA BBA ⊢
  go_upto_region 17 with (first | (refine wpList_store_ins rfl (.tmp 13) (.tmp 93) rfl VB.heap.size i zIns rfl rfl hN ?_; intro VC BC gC) | (go_at_call 20; (with_reducible refine (DJ.out _).mono ?_); rintro e VB ⟨rfl, bB⟩; have hN := Blok.new VB 61 (insCells zIns)))
  have bC : Below VA.heap.size VA VC := bgrow (bB.alloc bB.size (.cells zInsA 61)) gC bB.size
  have BD := BA.below bC BA.lt
  have hCD := hCA.below bC hCA.lt
  have hTD := hTA.below bC hTA.lt
  have BBD := bthen BBA bC
  clear BA hCA hTA BBA bC gC bB hN BC
  cases ok
  rotate_left
  · go_wp2_with fail
    go_ret
    exact ⟨rfl, BBD⟩
  have c28 : VC.cell? ⟨wb, 28, none⟩ = some (.int .u32 (s3 28)) := sta_cell BD 28 (by omega)
  have hPb : Blok (VC.alloc (.cells #[.int .u32 (s3 28), .int .u32 word] 69)) VC.heap.size 69 (putC (s3 28, word)) := Blok.new VC _ _
  have b9 : Below VC.heap.size VC (VC.alloc (.cells #[.int .u32 (s3 28), .int .u32 word] 69)) := (Below.refl _ _).alloc (Nat.le_refl _) _
  have AR : ArgRow putC (VC.alloc (.cells #[.int .u32 (s3 28), .int .u32 word] 69)) (.slice (some ⟨VC.heap.size, 0, none⟩) 1 1) [(s3 28, word)] := .inr ⟨_, 1, rfl, fun j y hy => by rw [add0, hPb.cell]; simpa using hy⟩
  have NL := Lib.hid (NewLine_is [(s3 28, word)] [] (.slice (some ⟨VC.heap.size, 0, none⟩) 1 1) (.slice none 0 0) 100 (fun p hp => by rw [List.mem_singleton.1 hp]; exact ⟨ok3 28 (by omega), hw⟩) (fun h hh => by cases hh) (by simp) (by simp) (by omega) _ AR (.inl ⟨rfl, rfl⟩))
  have hCz := hCD.below b9 hCD.lt
  have STP := Lib.hid (fun gL OL wA (b : Below (VC.alloc (.cells #[.int .u32 (s3 28), .int .u32 word] 69)).heap.size (VC.alloc (.cells #[.int .u32 (s3 28), .int .u32 word] 69)) wA) (hI : IsLine gL ⟨[(s3 28, word)], [], [], 0, 100⟩ OL wA) (nC : ¬ OL gc) => lineStep gL ⟨[(s3 28, word)], [], [], 0, 100⟩ OL s3 false gc 85 ok3 wA (hCz.below b hCz.lt) hI nC (by simp))
  have q := UN.out s3 f4 rfl 100
  have ST2 : ∀ gL OL wA, Below (VC.alloc (.cells #[.int .u32 (s3 28), .int .u32 word] 69)).heap.size (VC.alloc (.cells #[.int .u32 (s3 28), .int .u32 word] 69)) wA → IsLine gL ⟨[(s3 28, word)], [], [], 0, 100⟩ OL wA → ¬ OL gc →
      Calls Try.prog 13 #[.pointer (some ⟨gc, 0, none⟩), .iface 33 (.pointer (some ⟨gL, 0, none⟩))] wA (fun e w' => e = .returned (.tuple #[.agg #[.int .i64 1, .int .u32 (s3 28), .int .u32 word, .int .u32 0, .int .i64 0, .int .i64 0, .int .i64 0, .bool false], .int .i64 0]) ∧ Blok w' gc 85 (cpuCells (entS s3 27 ((s3 28 + 4) % 4294967296) 4) false) ∧ GrownS wA w' (fun j => j = gc ∨ OL j)) := fun gL OL wA b hI nC => (STP.out gL OL wA b hI nC).mono (fun e w' h => by
    unfold oneLine at q
    obtain ⟨h1, h2, O', _, h4, _⟩ := h
    rw [q] at h1 h2
    exact ⟨h1, h2, h4⟩)
  have SZ := Lib.hid ST2
  clear STP ST2 q hPb AR
  obtain ⟨y1, y2, y3, y4⟩ := exc_ret s3 ok3 f4 fb 27 4 3 (Or.inr ⟨rfl, rfl⟩)
  have p6 : 0 ≤ (s3 28 + 4) % 4294967296 ∧ (s3 28 + 4) % 4294967296 < 4294967296 := by omega
  have ok4 : OkS (entS s3 27 ((s3 28 + 4) % 4294967296) 4) := okS_ent ok3 _ p6 (by omega)
  go_upto_region 20 with (first | (refine wpList_store_all rfl 38 (.tmp 9) (.tmp 106) rfl tk (tkCells ⟨1, s3 28, word, 0, 0, 0, 0, false⟩).toArray rfl rfl hTB rfl (by rw [took_size]; rfl) rfl ?_; intro VE BE gE _zE) | (go_at_call 13; (with_reducible refine (SZ.out gL OL _ bA hI (fun q => by have := nO _ q; have := b9.size; have := hCD.lt; omega)).mono ?_); rintro e wB ⟨rfl, hCB, gB⟩; have hTB := hTA.gs gB (fun q => q.elim (fun e => by omega) (fun o => by have := nO _ o; have := b9.size; have := hTD.lt; omega)); have hXB := hXA.gs gB (fun q => q.elim (fun e => by omega) (fun o => by have := nO _ o; have := b9.size; have := BD.lt; omega))) | (go_at_call 12; (with_reducible refine (NL.out).mono ?_); rintro e wA ⟨gL, OL, rfl, hI, bA, nO⟩; have hTA := (hTD.below b9 hTD.lt).below bA (Nat.lt_of_lt_of_le hTD.lt b9.size); have hXA := (BD.below b9 BD.lt).below bA (Nat.lt_of_lt_of_le BD.lt b9.size)))
  have hCE := hCB.grown gE (fun e => by have := Option.some.inj e; omega)
  have hXE := hXB.grown gE (fun e => by have := Option.some.inj e; omega)
  have BBE : Below w.heap.size w VE := by
    have BBA := bthen (bthen BBD b9) bA
    have z := BBA.size
    have z2 := BBD.size
    exact bgrow (BBA.trans (gB.bel z (fun j o => o.elim (fun e => by omega) (fun o => by have := nO _ o; have := b9.size; omega)))) gE (by omega)
  have RT := Lib.hid (fun W h => Return_is (entS s3 27 ((s3 28 + 4) % 4294967296) 4) false gc 85 0 ok4 W h)
  rw [y3] at RT
  have XR := Lib.hid y4
  clear hCB hXB hTB hXA hTA gE gB hI bA nO SZ NL b9 hCz c28 hCD BD hTD BBD y1 y2 y3 y4 UN DJ
  generalize entS s3 27 ((s3 28 + 4) % 4294967296) 4 = s4 at hCE ok4 RT XR
  have d28 : VE.cell? ⟨wb, 28, none⟩ = some (.int .u32 (s3 28)) := sta_cell hXE 28 (by omega)
  have t0 : VE.cell? ⟨tk, 0, none⟩ = some (.int .i64 1) := BE.cell 0
  have t1 : VE.cell? ⟨tk, 1, none⟩ = some (.int .u32 (s3 28)) := BE.cell 1
  have t2 : VE.cell? ⟨tk, 2, none⟩ = some (.int .u32 word) := BE.cell 2
  have t3 : VE.cell? ⟨tk, 3, none⟩ = some (.int .u32 0) := BE.cell 3
  have t4 : VE.cell? ⟨tk, 4, none⟩ = some (.int .i64 0) := BE.cell 4
  have t5 : VE.cell? ⟨tk, 5, none⟩ = some (.int .i64 0) := BE.cell 5
  have t6 : VE.cell? ⟨tk, 6, none⟩ = some (.int .i64 0) := BE.cell 6
  have t7 : VE.cell? ⟨tk, 7, none⟩ = some (.bool false) := BE.cell 7
  go_upto_region 22 with (first | (go_at_call 15; (with_reducible refine (RT.out _ hCE).mono ?_); rintro e VF ⟨rfl, hCF, gF⟩) | (go_at_call 14; (with_reducible refine (no_is _ _).mono ?_); rintro e V5 ⟨rfl, rfl⟩))
  have B10 := hXE.grown gF (fun e => by have := Option.some.inj e; omega)
  have BB10 : Below w.heap.size w VF := bgrow BBE gF (Nat.le_of_lt lg)
  have hC10 := cpu_of hCF XR.out
  clear hXE hCE hCF gF XR RT d28 t0 t1 t2 t3 t4 t5 t6 t7 BE BBE ok4
  change Blok VF gc _ (cpuCells (set (set (set s3 28 ((s3 28 + 4) % 4294967296)) 21 ((s3 28 + 4) % 4294967296)) 26 (s3 29)) false) at hC10
  rw [set_comm s3 (show 28 ≠ 21 by decide), set_comm _ (show 28 ≠ 26 by decide)] at hC10
  have d28 : VF.cell? ⟨wb, 28, none⟩ = some (.int .u32 (s3 28)) := sta_cell B10 28 (by omega)
  have d21 := sta_cell B10 21 (by omega)
  have z21 := B10.frozen 21
  go_upto_region 23 with fail
  have B11 := B10.setsta 21 ((s3 28 + 4) % 4294967296)
  have hC11 := hC10.far (p := ⟨wb, 21, none⟩) (by simp; omega) (.int .u32 ((s3 28 + 4) % 4294967296))
  have BB11 := bgrow BB10 (grown_one VF wb 21 (.int .u32 ((s3 28 + 4) % 4294967296))) (by omega)
  clear B10 hC10 BB10 d28 d21 z21
  generalize VF.setCell ⟨wb, 21, none⟩ (.int .u32 ((s3 28 + 4) % 4294967296)) = VG at B11 hC11 BB11 ⊢
  have d29 : VG.cell? ⟨wb, 29, none⟩ = some (.int .u32 (s3 29)) := (sta_cell B11 29 (by omega)).trans (by simp [set])
  have d26 := sta_cell B11 26 (by omega)
  have z26 := B11.frozen 26
  go_upto_region 24 with fail
  have B12 := B11.setsta 26 (s3 29)
  have hC12 := hC11.far (p := ⟨wb, 26, none⟩) (by simp; omega) (.int .u32 (s3 29))
  have BB12 := bgrow BB11 (grown_one VG wb 26 (.int .u32 (s3 29))) (by omega)
  clear B11 hC11 BB11 d29 d26 z26
  generalize VG.setCell ⟨wb, 26, none⟩ (.int .u32 (s3 29)) = VH at B12 hC12 BB12 ⊢
  have d28 : VH.cell? ⟨wb, 28, none⟩ = some (.int .u32 (s3 28)) := (sta_cell B12 28 (by omega)).trans (by simp [set])
  have z28 := B12.frozen 28
  go_upto_region 25 with fail
  have B13 := B12.setsta 28 ((s3 28 + 4) % 4294967296)
  have hC13 := hC12.far (p := ⟨wb, 28, none⟩) (by simp; omega) (.int .u32 ((s3 28 + 4) % 4294967296))
  have BB13 := bgrow BB12 (grown_one VH wb 28 (.int .u32 ((s3 28 + 4) % 4294967296))) (by omega)
  clear B12 hC12 BB12 d28 z28
  generalize VH.setCell ⟨wb, 28, none⟩ (.int .u32 ((s3 28 + 4) % 4294967296)) = VI at B13 hC13 BB13 ⊢
  generalize set (set (set s3 21 ((s3 28 + 4) % 4294967296)) 26 (s3 29)) 28 ((s3 28 + 4) % 4294967296) = s5 at B13 hC13
  have hS : ∀ w', (∃ m, w' = grow VI m) → w'.rangeAt wb 0 (staCells s5) := fun w' ⟨m, e⟩ => by rw [e]; exact (B13.below (grow_below VI m) B13.lt).range
  have ST := Lib.hid (fun m => State_is s5 false gc 85 (grow VI m) (hC13.below (grow_below VI m) hC13.lt))
  have eq := eql_sta s5
  refine wp_region_grow (by kernel_rfl) (by kernel_rfl) ?_
  repeat (first | ((refine wpQuiet_load_mid (by rfl) 26 (.tmp 12) rfl wb 0 rfl (staCells s5) _ hS Try.underlying26 rfl (by rw [sta_size, staCells_len]) ?_); (try simp only [Act.put, List.setIfInBounds_toArray, List.set_cons_zero, List.set_cons_succ])) | go_big_quiet_step ((go_at_call 11; exact calls_grow (ST.out _))))
  refine wpQuiet_nil ?_
  intro _ hw'
  obtain ⟨ew, hw''⟩ := hw'
  subst hw''
  go_wp2_with fail
  go_ret
  exact ⟨rfl, bthen BB13 (grow_below VI ew)⟩
end Go.Proofs.Ytpfhplhamnohjaa
