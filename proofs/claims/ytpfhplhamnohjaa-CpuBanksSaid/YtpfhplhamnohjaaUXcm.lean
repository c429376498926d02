/- Layer 20: the walk of the law CpuBanks. -/
import Derived.Test.YtpfhplhamnohjaaG17
import Derived.Test.YtpfhplhamnohjaaUWam
import Derived.Test.YtpfhplhamnohjaaG21
namespace Go.Proofs.Ytpfhplhamnohjaa
set_option maxHeartbeats 25600000
set_option maxRecDepth 100000
open Go.RowKit

set_option linter.unusedSimpArgs false
theorem bits_u32 (x y : Int) : (0 ≤ bits .or .u32 x y ∧ bits .or .u32 x y < 4294967296) ∧ (0 ≤ bits .and .u32 x y ∧ bits .and .u32 x y < 4294967296) := by
  rw [bv_or, bv_and]
  have a := (BitVec.ofInt 32 x ||| BitVec.ofInt 32 y).isLt
  have b := (BitVec.ofInt 32 x &&& BitVec.ofInt 32 y).isLt
  omega
/-- the state that the law begins with: a user's CPSR, or (what is no state) a fresh one -/
theorem made_user (s : Sta) (hu : madeS s 29 % 32 = 16) : madeS s 29 = s 29 := by
  unfold madeS at hu ⊢
  split
  · rfl
  · rename_i h
    rw [if_neg h] at hu
    exact absurd hu (by decide)
def tkW (t : Tk) : Value := .tuple #[.agg #[.int .i64 t.kind, .int .u32 t.at_, .int .u32 t.word, .int .u32 t.va, .int .i64 t.fk, .int .i64 t.fl, .int .i64 t.fd, .bool t.store], .int .i64 0]
theorem step_tk (g : Nat) (m : LineM) (O : Nat → Prop) (s : Sta) (on : Bool) (gc : Nat) (hs : OkS s) (W : World) (hc : Blok W gc 85 (cpuCells s on)) (hI : IsLine g m O W) (hg : ¬ O gc) (hf : 17 ≤ m.room) :
    Calls Try.prog 13 #[.pointer (some ⟨gc, 0, none⟩), .iface 33 (.pointer (some ⟨g, 0, none⟩))] W (fun e w' => e = .returned (tkW (stepO lineF m s on).2.2) ∧ Blok w' gc 85 (cpuCells (stepO lineF m s on).2.1 on) ∧ ∃ O' : Nat → Prop, IsLine g (stepO lineF m s on).1 O' w' ∧ GrownS W w' (fun j => j = gc ∨ O j) ∧ ∀ j, O' j → O j ∨ W.heap.size ≤ j) :=
  lineStep g m O s on gc 85 hs W hc hI hg hf
/-- the law's own words about a user's step -/
theorem banks_of (s : Sta) (hs : OkS s) (m : LineM) (on : Bool) (hu : madeS (set s 29 (bits .or .u32 (bits .and .u32 (s 29) 4026531968) 16)) 29 % 32 = 16) :
    BkP (stepO lineF m (madeS (set s 29 (bits .or .u32 (bits .and .u32 (s 29) 4026531968) 16))) on).2.2.kind (madeS (set s 29 (bits .or .u32 (bits .and .u32 (s 29) 4026531968) 16))) (stepO lineF m (madeS (set s 29 (bits .or .u32 (bits .and .u32 (s 29) 4026531968) 16))) on).2.1 ∧ 0 ≤ (stepO lineF m (madeS (set s 29 (bits .or .u32 (bits .and .u32 (s 29) 4026531968) 16))) on).2.2.kind ∧ (stepO lineF m (madeS (set s 29 (bits .or .u32 (bits .and .u32 (s 29) 4026531968) 16))) on).2.2.kind ≤ 6 := by
  have ok := okS_made (okS_set hs 29 (bits_u32 (bits .and .u32 (s 29) 4026531968) 16).1)
  have q := step_banks lineF m _ on hu ok
  refine ⟨banks_law _ _ _ hu ok (line_okS _ _ on ok) (s 29) (by rw [made_user _ hu]; exact if_pos rfl) q, ?_⟩
  omega
def bkO : Obj := .cells #[.int .i64 0, .int .i64 3, .int .i64 1, .int .i64 2, .int .i64 2, .int .i64 4, .int .i64 0] 3
def mdO : Obj := .cells #[.int .i64 16, .int .i64 27, .int .i64 19, .int .i64 23, .int .i64 23, .int .i64 18, .int .i64 16] 3
def vcO : Obj := .cells #[.int .u32 0, .int .u32 4, .int .u32 8, .int .u32 12, .int .u32 16, .int .u32 24, .int .u32 0] 22
/-- the law's variables behind the step -/
structure BkI (w : World) (b tb nb g1 g2 g3 : Nat) (s n : Sta) (t : Tk) (wr : World) : Prop where
  x : Blok wr b 26 (staCells s)
  n : Blok wr nb 26 (staCells n)
  t : Blok wr tb 38 (tkCells t)
  a1 : Blok wr g1 3 [.int .i64 0, .int .i64 3, .int .i64 1, .int .i64 2, .int .i64 2, .int .i64 4, .int .i64 0]
  a2 : Blok wr g2 3 [.int .i64 16, .int .i64 27, .int .i64 19, .int .i64 23, .int .i64 23, .int .i64 18, .int .i64 16]
  a3 : Blok wr g3 22 [.int .u32 0, .int .u32 4, .int .u32 8, .int .u32 12, .int .u32 16, .int .u32 24, .int .u32 0]
  bel : Below w.heap.size w wr
theorem BkI.below {w wr w' : World} {b tb nb g1 g2 g3 : Nat} {s n : Sta} {t : Tk} (h : BkI w b tb nb g1 g2 g3 s n t wr) (k : Below wr.heap.size wr w') : BkI w b tb nb g1 g2 g3 s n t w' :=
  ⟨h.x.below k h.x.lt, h.n.below k h.n.lt, h.t.below k h.t.lt, h.a1.below k h.a1.lt, h.a2.below k h.a2.lt, h.a3.below k h.a3.lt, bthen h.bel k⟩
theorem BkI.gr {w wr : World} {b tb nb g1 g2 g3 : Nat} {s n : Sta} {t : Tk} (h : BkI w b tb nb g1 g2 g3 s n t wr) (q : More) : BkI w b tb nb g1 g2 g3 s n t (grow wr q) := h.below (grow_below wr q)
theorem seven {w : World} {g : Nat} {ty : TypeId} {cs : List Value} {f : Nat → Value} (h : Blok w g ty cs) (e : ∀ k, k < 7 → cs[k]? = some (f k)) (k : Nat) (hk : k < 7) : w.cell? ⟨g, k, none⟩ = some (f k) := by rw [h.cell, e k hk]
def lowL (s : Sta) : List Value := [.int .u32 (s 0), .int .u32 (s 1), .int .u32 (s 2), .int .u32 (s 3), .int .u32 (s 4), .int .u32 (s 5), .int .u32 (s 6), .int .u32 (s 7), .int .u32 (s 8), .int .u32 (s 9), .int .u32 (s 10), .int .u32 (s 11), .int .u32 (s 12)]
theorem lowL_range {w : World} {g : Nat} {t : TypeId} {n s : Sta} (h : Blok w g t (staCells n)) (e : ∀ j, j < 14 → n j = s j) : w.rangeAt g 0 (lowL s) := fun j v hv => by
  have hj : j < 13 := (List.getElem?_eq_some_iff.1 hv).1
  rw [Nat.zero_add, sta_cell h j (by omega), e j (by omega), ← hv]
  match j, hj with
  | 0, _ => rfl
  | 1, _ => rfl
  | 2, _ => rfl
  | 3, _ => rfl
  | 4, _ => rfl
  | 5, _ => rfl
  | 6, _ => rfl
  | 7, _ => rfl
  | 8, _ => rfl
  | 9, _ => rfl
  | 10, _ => rfl
  | 11, _ => rfl
  | 12, _ => rfl
theorem low_size : (Try.prog.info? 23).map (·.size) = some 13 := by kernel_rfl
theorem eql_low (s : Sta) (w : World) : (binOp .eql 23 (.agg (lowL s).toArray) (.agg (lowL s).toArray)).run Try.prog w = .ok (.bool true) w := by
  unfold lowL
  rw [run_eql_struct, eqIn_13 9998]; rfl
theorem banks_walk (s : Sta) (hs : OkS s) (puts : List (Int × Int)) (holes : List Hol) (vp vh : Value) (hp : ∀ p ∈ puts, (0 ≤ p.1 ∧ p.1 < 4294967296) ∧ (0 ≤ p.2 ∧ p.2 < 4294967296)) (hh : ∀ h ∈ holes, (0 ≤ h.lo ∧ h.lo < 4294967296) ∧ (0 ≤ h.hi ∧ h.hi < 4294967296))
    (lp : puts.length ≤ 17592186044416) (lh : holes.length ≤ 4398046511104) (on : Bool) (w : World) (ap : ArgRow putC w vp puts) (ah : ArgRow holC w vh holes) :
    Calls Try.prog 7 #[.agg (staCells s).toArray, vp, vh, .bool on] w fun e w' => e = .returned (.bool true) ∧ Below w.heap.size w w' := by
  have hX : Blok (w.alloc (.cells (staCells s).toArray 26)) w.heap.size 26 (staCells s) := Blok.new w _ (staCells s)
  have hB : Below w.heap.size w (w.alloc (.cells (staCells s).toArray 26)) := (Below.refl _ _).alloc (Nat.le_refl _) _
  have ok1 : OkS (set s 29 (bits .or .u32 (bits .and .u32 (s 29) 4026531968) 16)) := okS_set hs 29 (bits_u32 _ _).1
  have MD := Lib.hid (fun w => made_is _ ok1 w)
  have LV := Lib.hid (fun w => live_is w)
  have NB := Lib.hid (fun w' (b : Below w.heap.size w w') => NewLine_is puts holes vp vh 100 hp hh lp lh (by omega) w' (ap.below b) (ah.below b))
  have ok2 := okS_made ok1
  have LA := banks_of s hs ⟨puts, holes, [], 0, 100⟩ on
  clear hp hh lp lh ap ah ok1
  have c29 := sta_cell hX 29 (by omega)
  have f29 := hX.frozen 29
  go_enter Try.func7, Try.ntmps7
  go_upto_region 1 with fail
  generalize w.alloc (.cells (staCells s).toArray 26) = w1 at hX hB c29 f29 ⊢
  go_upto_region 2 with fail
  have hY := hX.setsta 29 (bits .or .u32 (bits .and .u32 (s 29) 4026531968) 16)
  have b2 := bgrow hB (grown_one w1 w.heap.size 29 (.int .u32 (bits .or .u32 (bits .and .u32 (s 29) 4026531968) 16))) (Nat.le_refl _)
  clear c29 f29 hX hB
  generalize w1.setCell ⟨w.heap.size, 29, none⟩ (.int .u32 (bits .or .u32 (bits .and .u32 (s 29) 4026531968) 16)) = w2 at hY b2 ⊢
  generalize bits .or .u32 (bits .and .u32 (s 29) 4026531968) 16 = cp at MD LA ok2 hY b2 ⊢
  generalize madeS (set s 29 cp) = s0 at MD LA ok2
  go_upto_region 5 with (first | (go_at_call 10; (with_reducible refine (LV.out _).mono ?_); rintro e w4 ⟨rfl, b4⟩) | (go_at_call 9; (with_reducible refine (MD.out _).mono ?_); rintro e w3 ⟨gc, rfl, hC, b3, l2⟩) | (refine wpList_load_mid rfl 26 (.tmp 4) rfl w.heap.size 0 rfl (staCells (set s 29 cp)) _ hY.range Try.underlying26 rfl (by rw [sta_size, staCells_len]) ?_))
  have hC4 := hC.below b4 hC.lt
  have hY4 := (hY.below b3 hY.lt).below b4 (Nat.lt_of_lt_of_le hY.lt b3.size)
  have B4 := bthen (bthen b2 b3) b4
  have lg : w.heap.size < gc := by have := hY.lt; omega
  clear hY hC b2 b3 b4 l2 MD LV
  have SS := Lib.hid (State_is s0 false gc 85 w4 hC4)
  go_upto_region 6 with (first | (refine wpList_store_sta rfl (.tmp 4) (.tmp 34) rfl w.heap.size s0 (set s 29 cp) rfl rfl hY5 ?_; intro w6 hX6 g6) | (go_at_call 11; (with_reducible refine (SS.out).mono ?_); rintro e w5 ⟨rfl, b5⟩; have hY5 := hY4.below b5 hY4.lt))
  have hC6 := (hC4.below b5 hC4.lt).grown g6 (fun e => by have := Option.some.inj e; omega)
  have B6 : Below w.heap.size w w6 := bgrow (bthen B4 b5) g6 (Nat.le_refl _)
  clear hC4 hY4 hY5 B4 b5 g6 SS
  have LI := Lib.hid (Line_is s0 false on gc 85 w6 hC6)
  go_upto_region 7 with (go_at_call 23; (with_reducible refine (LI.out).mono ?_); rintro e w7 ⟨rfl, hC7, g7⟩)
  have hX7 := hX6.grown g7 (fun e => by have := Option.some.inj e; omega)
  have B7 : Below w.heap.size w w7 := bgrow B6 g7 (by omega)
  clear LI hC6 hX6 B6 g7
  have c29 := sta_cell hX7 29 (by omega)
  have u29 := ok2 29 (by omega)
  have m2 : bits .and .u32 (s0 29) 31 = s0 29 % 32 := and32 5 (by decide) _ u29.1 (by simpa using u29.2)
  have d1 : wrap64 (s0 29 % 32) = s0 29 % 32 := by unfold wrap64; omega
  go_upto_region 8 with fail
  clear c29 m2 d1
  have NL := Lib.hid (NB.out w7 B7)
  clear NB
  go_upto_region 9 with (first | (go_at_call 12; (with_reducible refine (NL.out).mono ?_); rintro e w8 ⟨gL, OL, rfl, hI, b8, nO⟩; have hC8 := hC7.below b8 hC7.lt; have ST := step_tk gL ⟨puts, holes, [], 0, 100⟩ OL s0 on gc ok2 w8 hC8 hI (fun q => by have := nO _ q; have := hC7.lt; omega) (by simp); generalize stepO lineF ⟨puts, holes, [], 0, 100⟩ s0 on = r at ST LA; obtain ⟨m1, n, t⟩ := r; dsimp only at ST LA; unfold tkW at ST; have ST := Lib.hid ST) | (go_at_call 13; (with_reducible refine (ST.out).mono ?_); rintro e w9 ⟨rfl, hC9, O9, hI9, g9, k9⟩))
  change Code.wp _ _ _ _ (w9.alloc (tkO t))
  have hT : Blok (w9.alloc (tkO t)) w9.heap.size 38 (tkCells t) := Blok.new w9 _ (tkCells t)
  have bT : Below w9.heap.size w9 (w9.alloc (tkO t)) := (Below.refl _ _).alloc (Nat.le_refl _) _
  have nX : ¬ (w.heap.size = gc ∨ OL w.heap.size) := fun q => q.elim (fun e => by omega) (fun o => by have := nO _ o; have := hX7.lt; omega)
  have hX9 := (hX7.below b8 hX7.lt).gs g9 nX
  have hXT := hX9.below bT hX9.lt
  have hCT := hC9.below bT hC9.lt
  have z8 := (bthen B7 b8).size
  have BT := bthen ((bthen B7 b8).trans (g9.bel z8 (fun j o => o.elim (fun e => by omega) (fun o => by have := nO _ o; have := B7.size; omega)))) bT
  clear hX9 bT hX7 hC8 hC9 hC7 B7 b8 g9 k9 hI9 hI NL ST nX z8 nO
  generalize w9.alloc (tkO t) = wa at hT hXT hCT BT ⊢
  generalize w9.heap.size = tb at hT ⊢
  have SS := Lib.hid (State_is n on gc 85 wa hCT)
  go_upto_region 10 with (first | (refine wpList_store_sta rfl (.tmp 13) (.tmp 53) rfl wb.heap.size n zSta rfl rfl hZ ?_; intro wc hN gN) | (go_at_call 11; (with_reducible refine (SS.out).mono ?_); rintro e wb ⟨rfl, bb⟩; have hZ := Blok.new wb 26 (staCells zSta)))
  have bN : Below wa.heap.size wa wc := bgrow (bb.alloc bb.size (.cells #[.int .u32 0, .int .u32 0, .int .u32 0, .int .u32 0, .int .u32 0, .int .u32 0, .int .u32 0, .int .u32 0, .int .u32 0, .int .u32 0, .int .u32 0, .int .u32 0, .int .u32 0, .int .u32 0, .int .u32 0, .int .u32 0, .int .u32 0, .int .u32 0, .int .u32 0, .int .u32 0, .int .u32 0, .int .u32 0, .int .u32 0, .int .u32 0, .int .u32 0, .int .u32 0, .int .u32 0, .int .u32 0, .int .u32 0, .int .u32 0] 26)) gN bb.size
  have hX := hXT.below bN hXT.lt
  have hTc := hT.below bN hT.lt
  have BN := bthen BT bN
  clear hXT hT BT hCT bb gN bN hZ SS
  generalize wb.heap.size = nb at hN ⊢
  have u29 := ok2 29 (by omega)
  generalize hub : (s0 29 % 32 == 16) = ub
  cases ub
  · go_wp2_with (go_at_call 14; (with_reducible refine (no_is _ _).mono ?_); rintro e wq ⟨rfl, rfl⟩)
    go_ret
    exact ⟨rfl, BN⟩
  obtain ⟨BK, k0, k6⟩ := LA (by simpa using hub)
  clear LA hub
  go_upto_region 15 with (go_at_call 14; (with_reducible refine (no_is _ _).mono ?_); rintro e wq ⟨rfl, rfl⟩)
  change Code.wp _ _ _ _ (((wc.alloc bkO).alloc mdO).alloc vcO)
  have I0 : BkI w w.heap.size tb nb wc.heap.size (wc.heap.size + 1) (wc.heap.size + 1 + 1) s0 n t (((wc.alloc bkO).alloc mdO).alloc vcO) := by
    have a1 := Blok.new wc 3 [.int .i64 0, .int .i64 3, .int .i64 1, .int .i64 2, .int .i64 2, .int .i64 4, .int .i64 0]
    have a2 := Blok.new (wc.alloc bkO) 3 [.int .i64 16, .int .i64 27, .int .i64 19, .int .i64 23, .int .i64 23, .int .i64 18, .int .i64 16]
    have a3 := Blok.new ((wc.alloc bkO).alloc mdO) 22 [.int .u32 0, .int .u32 4, .int .u32 8, .int .u32 12, .int .u32 16, .int .u32 24, .int .u32 0]
    have e1 : (wc.alloc bkO).heap.size = wc.heap.size + 1 := by simp
    have e2 : ((wc.alloc bkO).alloc mdO).heap.size = wc.heap.size + 1 + 1 := by simp
    rw [e1] at a2
    rw [e2] at a3
    exact ⟨((hX.alloc bkO).alloc mdO).alloc vcO, ((hN.alloc bkO).alloc mdO).alloc vcO, ((hTc.alloc bkO).alloc mdO).alloc vcO, (a1.alloc mdO).alloc vcO, a2.alloc vcO, a3, ((BN.alloc BN.size bkO).alloc (by simp; have := BN.size; omega) mdO).alloc (by simp; have := BN.size; omega) vcO⟩
  clear hX hN hTc BN
  generalize ((wc.alloc bkO).alloc mdO).alloc vcO = wd at I0 ⊢
  generalize wc.heap.size + 1 + 1 = g3 at I0 ⊢
  generalize wc.heap.size + 1 = g2 at I0 ⊢
  generalize wc.heap.size = g1 at I0 ⊢
  obtain ⟨k, hk⟩ : ∃ k : Nat, t.kind = k := ⟨t.kind.toNat, by omega⟩
  rw [hk] at BK k0 k6
  have k7 : k < 7 := by omega
  have hmd : 0 ≤ mdK k ∧ mdK k < 32 := by unfold mdK; omega
  have hbk : 0 ≤ bkK k ∧ bkK k < 5 := by unfold bkK; omega
  obtain ⟨bn, hbn⟩ : ∃ bn : Nat, bkK k = bn := ⟨(bkK k).toNat, by omega⟩
  have A1 : ∀ wq, BkI w w.heap.size tb nb g1 g2 g3 s0 n t wq → wq.cell? ⟨g1, k, none⟩ = some (.int .i64 bn) := fun wq J => by
    rw [← hbn]
    exact seven (f := fun k => .int .i64 (bkK k)) J.a1 (fun k hk => by match k, hk with | 0, _ => rfl | 1, _ => rfl | 2, _ => rfl | 3, _ => rfl | 4, _ => rfl | 5, _ => rfl | 6, _ => rfl) k k7
  have A2 : ∀ wq, BkI w w.heap.size tb nb g1 g2 g3 s0 n t wq → wq.cell? ⟨g2, k, none⟩ = some (.int .i64 (mdK k)) := fun wq J =>
    seven (f := fun k => .int .i64 (mdK k)) J.a2 (fun k hk => by match k, hk with | 0, _ => rfl | 1, _ => rfl | 2, _ => rfl | 3, _ => rfl | 4, _ => rfl | 5, _ => rfl | 6, _ => rfl) k k7
  have A3 : ∀ wq, BkI w w.heap.size tb nb g1 g2 g3 s0 n t wq → wq.cell? ⟨g3, k, none⟩ = some (.int .u32 (vcK k)) := fun wq J =>
    seven (f := fun k => .int .u32 (vcK k)) J.a3 (fun k hk => by match k, hk with | 0, _ => rfl | 1, _ => rfl | 2, _ => rfl | 3, _ => rfl | 4, _ => rfl | 5, _ => rfl | 6, _ => rfl) k k7
  have A0 : ∀ wq, BkI w w.heap.size tb nb g1 g2 g3 s0 n t wq → wq.cell? ⟨tb, 0, none⟩ = some (.int .i64 k) := fun wq J => by rw [← hk]; exact J.t.cell 0
  have M := BK.mode
  have w1 : wrap64 (mdK k) = mdK k := by unfold wrap64; omega
  have A0 := Lib.hid A0
  have A1 := Lib.hid A1
  have A2 := Lib.hid A2
  have A3 := Lib.hid A3
  have t0 := fun q => A0.out _ (I0.gr q)
  have n29 := fun q => sta_cell (I0.gr q).n 29 (by omega)
  have m0 := fun q => A2.out _ (I0.gr q)
  have c0 : ((k : Int) < 0) = False := by simp
  have c6 : ¬ ((k : Int) > 6) := by omega
  (refine wp_region_grow (by kernel_rfl) (by kernel_rfl) ?_; (repeat (go_big_quiet_step (fail))); refine wpQuiet_nil ?_; intro _ hw'; obtain ⟨ew, hw''⟩ := hw'; subst hw'')
  have I1 := I0.gr ew
  clear I0 t0 n29 m0
  generalize grow wd ew = we at I1 ⊢
  go_wp2_with fail
  go_loopw [17] (fun v17 wr => ∃ j : Nat, v17 = .int .i64 j ∧ 1 ≤ j ∧ j ≤ 5 ∧ BkI w w.heap.size tb nb g1 g2 g3 s0 n t wr) (fun v17 _ => 5 - (intOf v17).toNat)
  case atStart => exact ⟨1, rfl, by omega, by omega, I1⟩
  case round =>
    clear I1
    obtain ⟨j, rfl, k1, k5, J⟩ := hrel
    by_cases h5 : j = 5
    · subst h5
      by_cases hq : k = 0 ∨ k = 6
      · have Q := BK.quiet (by omega)
        have t0 := A0.out _ J
        have x29 := sta_cell J.x 29 (by omega)
        have n29 := sta_cell J.n 29 (by omega)
        clear A0 A1 A2 A3 BK
        rcases hq with rfl | rfl
        all_goals
          go_wp2_with fail
          go_ret
          exact ⟨rfl, J.bel⟩
      have T := BK.took (by omega)
      have hb1 : 1 ≤ bn := by
        have h := hbn
        unfold bkK at h
        omega
      have hb5 : bn < 5 := by omega
      rw [hbn, Int.toNat_natCast] at T
      have e0 : ((k : Int) == 0) = false := beq_eq_false_iff_ne.2 (by omega)
      have e6 : ((k : Int) == 6) = false := beq_eq_false_iff_ne.2 (by omega)
      have t0 := A0.out _ J
      have a1 := A1.out _ J
      have tq := fun q => A0.out _ (J.gr q)
      have mq := fun q => A2.out _ (J.gr q)
      have vq := fun q => A3.out _ (J.gr q)
      have y28 := fun q => (sta_cell (J.gr q).n 28 (by omega)).trans (by rw [T.1])
      have y29 := fun q => (sta_cell (J.gr q).n 29 (by omega)).trans (by rw [T.2.1])
      have y23 := fun q => (sta_cell (J.gr q).n (23 + bn) (by omega)).trans (by rw [T.2.2.1])
      have y13 := fun q => (sta_cell (J.gr q).n 13 (by omega)).trans (by rw [T.2.2.2.2.1 13 (by omega)])
      have y18b := fun q => (sta_cell (J.gr q).n 18 (by omega)).trans (by rw [T.2.2.2.2.2])
      have yl : ∀ w', (∃ m, w' = grow wr m) → w'.rangeAt nb 0 (lowL s0) := fun w' ⟨m, e⟩ => by rw [e]; exact lowL_range (J.gr m).n T.2.2.2.2.1
      have xl : ∀ w', (∃ m, w' = grow wr m) → w'.rangeAt w.heap.size 0 (lowL s0) := fun w' ⟨m, e⟩ => by rw [e]; exact lowL_range (J.gr m).x (fun _ _ => rfl)
      have x28 := fun q => sta_cell (J.gr q).x 28 (by omega)
      have x29 := fun q => sta_cell (J.gr q).x 29 (by omega)
      have x13 := fun q => sta_cell (J.gr q).x 13 (by omega)
      have x18 := fun q => sta_cell (J.gr q).x 18 (by omega)
      have w2 : mdK k % 4294967296 = mdK k := by omega
      have EL := eql_low s0
      have T4 := T.2.2.2.1
      clear T M w1 BK hq
      have D : (((k : Int) == 4) = true ∧ moK k = 8) ∨ (((k : Int) == 4) = false ∧ moK k = 4) := by
        unfold moK
        by_cases h4 : (k : Int) = 4
        · exact .inl ⟨beq_iff_eq.2 h4, if_pos h4⟩
        · exact .inr ⟨beq_eq_false_iff_ne.2 h4, if_neg h4⟩
      rcases D with ⟨e4, hm⟩ | ⟨e4, hm⟩
      all_goals
        rw [hm] at T4
        have y18 := fun q => (sta_cell (J.gr q).n (18 + bn) (by omega)).trans (by rw [T4])
        clear T4 hm
        go_upto_region 28 with fail
        simp only [List.append_eq, List.cons_append, List.nil_append]
        refine wp_region_grow (by kernel_rfl) (by kernel_rfl) ?_
        repeat (first | ((refine wpQuiet_load_mid (by rfl) 23 _ rfl nb 0 rfl (lowL s0) _ yl Try.underlying23 rfl low_size ?_); (try simp only [Act.put, List.setIfInBounds_toArray, List.set_cons_zero, List.set_cons_succ])) | ((refine wpQuiet_load_mid (by rfl) 23 _ rfl w.heap.size 0 rfl (lowL s0) _ xl Try.underlying23 rfl low_size ?_); (try simp only [Act.put, List.setIfInBounds_toArray, List.set_cons_zero, List.set_cons_succ])) | go_big_quiet_step (fail))
        refine wpQuiet_nil ?_
        intro _ hw'
        obtain ⟨ew, hw''⟩ := hw'
        subst hw''
        have JB := (J.gr ew).bel
        generalize grow wr ew = wz at JB ⊢
        go_wp2_with fail
        go_ret
        exact ⟨rfl, JB⟩
    have k4 : j < 5 := by omega
    have tq := fun q => A0.out _ (J.gr q)
    have aq := fun q => A1.out _ (J.gr q)
    have x1 := fun q => sta_cell (J.gr q).x (13 + j) (by omega)
    have y1 := fun q => (sta_cell (J.gr q).n (13 + j) (by omega)).trans (by rw [BK.sp j k1 k4])
    by_cases hb : j = bn
    · subst hb
      go_upto_region 20 with fail
      (refine wp_region_grow (by kernel_rfl) (by kernel_rfl) ?_; (repeat (go_big_quiet_step (fail))); refine wpQuiet_nil ?_; intro _ hw'; obtain ⟨ew, hw''⟩ := hw'; subst hw'')
      have J1 := J.gr ew
      clear J tq aq x1 y1
      generalize grow wr ew = wn at J1 ⊢
      go_wp2_with fail
      go_roundw
      case rel => exact ⟨j + 1, by go_num, by omega, by omega, J1⟩
      case measure => simp [intOf]; omega
    · have L := BK.lr j k1 k4 (by rw [hbn]; omega)
      have hq : ((j : Int) != (bn : Int)) = true := bne_iff_ne.2 (by omega)
      have hr : ((j : Int) == (bn : Int)) = false := beq_eq_false_iff_ne.2 (by omega)
      have x2 := fun q => sta_cell (J.gr q).x (18 + j) (by omega)
      have y2 := fun q => (sta_cell (J.gr q).n (18 + j) (by omega)).trans (by rw [L.1])
      have x3 := fun q => sta_cell (J.gr q).x (23 + j) (by omega)
      have y3 := fun q => (sta_cell (J.gr q).n (23 + j) (by omega)).trans (by rw [L.2])
      go_upto_region 20 with fail
      (refine wp_region_grow (by kernel_rfl) (by kernel_rfl) ?_; (repeat (go_big_quiet_step (fail))); refine wpQuiet_nil ?_; intro _ hw'; obtain ⟨ew, hw''⟩ := hw'; subst hw'')
      have J1 := J.gr ew
      clear J tq aq x1 y1 x2 y2 x3 y3
      generalize grow wr ew = wn at J1 ⊢
      go_wp2_with fail
      go_roundw
      case rel => exact ⟨j + 1, by go_num, by omega, by omega, J1⟩
      case measure => simp [intOf]; omega
end Go.Proofs.Ytpfhplhamnohjaa
