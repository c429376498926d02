/- A script of layer 11 in memory: a slice of calls, each of 19 cells; and how it reads. The walks of the laws of layer 11 against the document: both, play, HierFinds, HierKeeps, HierEvicts, HierDrops. -/
import Derived.Test.YtngcpcgioophcaaDoorStep12
import Derived.Test.YtngcpcgioophcaaDoorScript
namespace Go.Proofs.YtngcpcgioophcaaDoor
open Go.ChangeShapes Go.WideShapes Go.RowKit Go.Deep Go.Proofs.YtngcpcgioophcaaDoor.Flat
set_option maxRecDepth 100000

/-- the calls os lie behind p, in a block below B -/
def OpsIn11 (B : Nat) (w : World) (p : Option Addr) (os : List Op11) : Prop :=
  ∀ i o, os[i]? = some o → ∃ b k, p = some ⟨b, k, none⟩ ∧ b < B ∧ ∀ j v, (op11Cells o)[j]? = some v → w.cell? ⟨b, k + i * 19 + j, none⟩ = some v
instance : Inhabited Op11 := ⟨⟨0, 0, 0, 0, 0, false, false, zblk, ⟨0, 0, 0⟩⟩⟩
def op11K : List (Option IntKind) := [some .i64, some .i64, some .i64, some .i64, some .u32, none, none] ++ blkK ++ tlbiK
theorem of_op11K {cs : List Value} (h : fitsAll op11K cs) : ∃ o : Op11, cs = op11Cells o ∧ o.Ok := by
  have hl := fitsAll_len h
  match cs, hl with
  | [u0, u1, u2, u3, u4, u5, u6, v0, v1, v2, v3, v4, v5, v6, v7, v8, d0, d1, d2], _ =>
    obtain ⟨⟨m0, rfl, g0⟩, ⟨m1, rfl, g1⟩, ⟨m2, rfl, g2⟩, ⟨m3, rfl, g3⟩, ⟨m4, rfl, g4⟩, ⟨m5, rfl⟩, ⟨m6, rfl⟩, ⟨n0, rfl, h0⟩, ⟨n1, rfl, h1⟩, ⟨n2, rfl, h2⟩, ⟨n3, rfl, h3⟩, ⟨n4, rfl, h4⟩, ⟨n5, rfl, h5⟩, ⟨n6, rfl, h6⟩, ⟨n7, rfl⟩, ⟨n8, rfl⟩, ⟨e0, rfl, f0⟩, ⟨e1, rfl, f1⟩, ⟨e2, rfl, f2⟩, _⟩ := h
    exact ⟨⟨m0, m1, m2, m3, m4, m5, m6, ⟨n0, n1, n2, n3, n4, n5, n6, n7, n8⟩, ⟨e0, e1, e2⟩⟩, rfl, ⟨(bnd_i64 g2).1, (bnd_i64 g2).2, ⟨(bnd_i64 h0).1, (bnd_i64 h0).2, (bnd_i64 h1).1, (bnd_i64 h1).2, (bnd_u32 h2).1, (bnd_u32 h2).2, (bnd_u64 h3).1, (bnd_u64 h3).2, (bnd_i64 h4).1, (bnd_i64 h4).2, (bnd_i64 h5).1, (bnd_i64 h5).2, (bnd_u32 h6).1, (bnd_u32 h6).2⟩⟩⟩
theorem flat_op11 : flatT Tryd.prog 5 79 = some op11K := by kernel_rfl
theorem cells_op11 : Tryd.prog.cellsOf 79 = op11K.length := by kernel_rfl
section
variable {H : Type} {enc : TypeId × Value → H} {W : World} {spare : Nat → Bool} {held : Bool} {r : Reach} {b0 : Nat} {v : Value} {d : DataW H} {p : List MemPlace}
theorem open_ops11 (hv : Value.okWide Tryd.prog W r b0 70 v) (h : DataW.Trod enc Tryd.prog W 0 spare held 70 v d p) :
    ∃ (q : Option Addr) (cap : Nat) (os : List Op11), v = .slice q os.length cap ∧ OpsIn11 W.heap.size W q os ∧ (∀ o ∈ os, o.Ok) ∧ os.length ≤ maxLen := by
  obtain ⟨q, len, cap, rfl⟩ := okWide_slice Tryd.underlying70 hv
  obtain ⟨fuel, hf⟩ := h
  rcases open_slice Tryd.underlying70 hf with ⟨hc, _⟩ | ⟨a, len', cap', m, n, D, Pl, hc, hb, hl, hm, hmm, hx, hall⟩
  · simp only [Value.cells, List.cons.injEq, Value.slice.injEq, and_true] at hc
    obtain ⟨rfl, rfl, rfl⟩ := hc
    exact ⟨none, 0, [], rfl, fun i o hi => by simp at hi, fun o ho => (by cases ho), Nat.zero_le _⟩
  · simp only [Value.cells, List.cons.injEq, Value.slice.injEq, and_true] at hc
    obtain ⟨rfl, rfl, rfl⟩ := hc
    have hlm : len ≤ m := by rw [hmm]; split <;> omega
    have each : ∀ i, i < len → ∃ o : Op11, o.Ok ∧ a.spot = none ∧ a.block < W.heap.size ∧ ∀ j v, (op11Cells o)[j]? = some v → W.cell? ⟨a.block, a.off + i * 19 + j, none⟩ = some v := by
      intro i hi
      obtain ⟨cs', h1, h2⟩ := hall i (by omega)
      rw [cells_op11] at h1
      obtain ⟨_, hlen, hcell⟩ := World.cells?_some h1
      obtain ⟨o, rfl, ho⟩ := of_op11K (flatT_fits (P := Tryd.prog) 5 n 79 op11K _ _ flat_op11 h2 cells_op11)
      have hc : ∀ j v, (op11Cells o)[j]? = some v → W.cell? ((a.add (i * 19)).add j) = some v := by
        intro j v hjv
        have hj : j < 19 := (List.getElem?_eq_some_iff.1 hjv).1
        exact (hcell j hj).trans hjv
      have h0 := hc 1 _ rfl
      have hs : (a.add (i * 19)).add 1 = ⟨a.block, a.off + i * 19 + 1, none⟩ := by
        unfold Addr.add; by_cases e : i * 19 = 0 <;> simp [e]
      have hz := hc 0 _ rfl
      have hspot : a.spot = none ∨ 0 < i := by
        by_cases e : i = 0
        · left
          subst e
          simp only [Nat.zero_mul, Addr.add, if_pos] at hz
          unfold World.cell? at hz
          split at hz
          · split at hz
            · cases hz
            · rename_i hh; simpa using hh
          · cases hz
        · right; omega
      have hadd : ∀ j, (a.spot = none ∨ 0 < i) → (a.add (i * 19)).add j = ⟨a.block, a.off + i * 19 + j, none⟩ := by
        intro j hd
        obtain ⟨ab, ao, sp⟩ := a
        unfold Addr.add
        by_cases e : i * 19 = 0
        · have : i = 0 := by omega
          subst this
          rcases hd with hd | hd
          · simp only at hd; subst hd
            by_cases f : j = 0 <;> simp [f]
          · omega
        · by_cases f : j = 0 <;> simp [e, f]
      have hbl : a.block < W.heap.size := by
        have := World.block_lt_of_cell? W _ h0
        rw [hs] at this
        exact this
      have hcc : ∀ j v, (op11Cells o)[j]? = some v → W.cell? ⟨a.block, a.off + i * 19 + j, none⟩ = some v := fun j v hjv => by rw [← hadd j hspot]; exact hc j v hjv
      refine ⟨o, ho, ?_, hbl, hcc⟩
      by_cases e : a.spot = none
      · exact e
      · exfalso
        obtain ⟨cs0, g1, g2⟩ := hall 0 (by omega)
        rw [cells_op11] at g1
        obtain ⟨_, hlen0, hcell0⟩ := World.cells?_some g1
        have hq := hcell0 0 (by decide)
        simp only [Nat.zero_mul, Addr.add, if_pos] at hq
        rw [List.getElem?_eq_getElem (by rw [hlen0]; decide)] at hq
        unfold World.cell? at hq
        split at hq
        · split at hq
          · cases hq
          · rename_i hh; exact e (by simpa using hh)
        · cases hq
    obtain ⟨O, hO⟩ := choose_lt each
    have hlen : ((List.range len).map O).length = len := by simp
    refine ⟨some a, cap, (List.range len).map O, by rw [hlen], ?_, ?_, by rw [hlen]; omega⟩
    · intro i o hi
      have hil : i < len := by have := (List.getElem?_eq_some_iff.1 hi).1; simpa using this
      have e : o = O i := by simpa [hil] using hi.symm
      subst e
      obtain ⟨_, hsp, hbl, hcc⟩ := hO i hil
      refine ⟨a.block, a.off, ?_, hbl, hcc⟩
      obtain ⟨ab, ao, sp⟩ := a
      simp only at hsp
      rw [hsp]
    · intro o ho
      obtain ⟨i, hi, rfl⟩ := List.mem_map.1 ho
      exact (hO i (List.mem_range.1 hi)).1
end
end Go.Proofs.YtngcpcgioophcaaDoor

namespace Go.Proofs.YtngcpcgioophcaaDoor
open Go.RowKit

def Ok1 (n : Int) : Prop := 1 ≤ n ∧ n ≤ 64
theorem rows3_ok (n1 n2 n3 : Nat) : Ok3 (rows3 n1 n2 n3) := fun k _ _ => by unfold rows3 sel3; split; exact newRow_ok _; split; exact newRow_ok _; exact newRow_ok _
set_option maxHeartbeats 3200000 in
set_option maxRecDepth 100000 in
theorem both_yes (n1 n2 n3 : Nat) (a1 : 1 ≤ n1) (b1 : n1 ≤ 64) (a2 : 1 ≤ n2) (b2 : n2 ≤ 64) (a3 : 1 ≤ n3) (b3 : n3 ≤ 64) (w : World) (hs : Shf w) :
    Calls Tryd.prog 44 #[.int .i64 n1, .int .i64 n2, .int .i64 n3] w fun e w' => ∃ M hb tb gb rb rtb rgb, e = .returned (.tuple #[.pointer (some ⟨hb, 0, none⟩), .pointer (some ⟨rb, 0, none⟩), .bool true]) ∧ IsHier w' hb tb gb (rows3 n1 n2 n3) ∧ IsRef w' rb rtb rgb (rows3 n1 n2 n3) ∧ Apart 0 M hb tb gb rb rtb rgb ∧ From w.heap.size hb tb gb ∧ w.heap.size ≤ M ∧ Shf w' ∧ Below w.heap.size w w' := by
  have HN := Lib.hid (hier_New_yes n1 n2 n3 a1 b1 a2 b2 a3 b3 w hs)
  have RN := Lib.hid (fun W hz => ref11_New_yes n1 n2 n3 a1 b1 a2 b2 a3 b3 W hz)
  go_enter Tryd.func44, Tryd.ntmps44
  go_wp2_with (first
    | (go_at_call 69; refine (RN.out _ hs1.pos).mono ?_; rintro e w2 ⟨rb, rtb, rgb, rfl, hR2, hr2, hB2⟩)
    | (go_at_call 38; refine HN.out.mono ?_; rintro e w1 ⟨hb, tb, gb, rfl, hH1, hf1, hB1⟩; have hs1 := hs.below hs.pos hB1))
  go_ret3
  exact ⟨w1.heap.size, hb, tb, gb, rb, rtb, rgb, rfl, hH1.below hB2, hR2, ⟨⟨hH1.b.lt, fun k a c => ⟨(hH1.th.t k a c).hd.lt, (hH1.th.t k a c).sl.lt⟩⟩, hr2⟩, hf1, hB1.size, hs1.below hs1.pos hB2, bthen hB1 hB2⟩
set_option maxHeartbeats 1600000 in
theorem both_no1 (n1 n2 n3 : Int) (h1 : n1 < 1 ∨ 64 < n1) (w : World) :
    Calls Tryd.prog 44 #[.int .i64 n1, .int .i64 n2, .int .i64 n3] w fun e w' => e = .returned (.tuple #[.pointer none, .pointer none, .bool true]) ∧ Below w.heap.size w w' := by
  have HN := Lib.hid (hier_New_no1 n1 n2 n3 h1 w)
  have RN := Lib.hid (fun W => ref11_New_no1 n1 n2 n3 h1 W)
  go_enter Tryd.func44, Tryd.ntmps44
  go_wp2_with (first
    | (go_at_call 69; refine (RN.out _).mono ?_; rintro e w2 ⟨rfl, hB2⟩)
    | (go_at_call 38; refine HN.out.mono ?_; rintro e w1 ⟨rfl, hB1⟩))
  go_ret3
  exact ⟨rfl, bthen hB1 hB2⟩
set_option maxHeartbeats 1600000 in
theorem both_no2 (n1 : Nat) (n2 n3 : Int) (a1 : 1 ≤ n1) (b1 : n1 ≤ 64) (h2 : n2 < 1 ∨ 64 < n2) (w : World) :
    Calls Tryd.prog 44 #[.int .i64 n1, .int .i64 n2, .int .i64 n3] w fun e w' => e = .returned (.tuple #[.pointer none, .pointer none, .bool true]) ∧ Below w.heap.size w w' := by
  have HN := Lib.hid (hier_New_no2 n1 n2 n3 a1 b1 h2 w)
  have RN := Lib.hid (fun W => ref11_New_no2 n1 n2 n3 a1 b1 h2 W)
  go_enter Tryd.func44, Tryd.ntmps44
  go_wp2_with (first
    | (go_at_call 69; refine (RN.out _).mono ?_; rintro e w2 ⟨rfl, hB2⟩)
    | (go_at_call 38; refine HN.out.mono ?_; rintro e w1 ⟨rfl, hB1⟩))
  go_ret3
  exact ⟨rfl, bthen hB1 hB2⟩
set_option maxHeartbeats 1600000 in
theorem both_no3 (n1 n2 : Nat) (n3 : Int) (a1 : 1 ≤ n1) (b1 : n1 ≤ 64) (a2 : 1 ≤ n2) (b2 : n2 ≤ 64) (h3 : n3 < 1 ∨ 64 < n3) (w : World) :
    Calls Tryd.prog 44 #[.int .i64 n1, .int .i64 n2, .int .i64 n3] w fun e w' => e = .returned (.tuple #[.pointer none, .pointer none, .bool true]) ∧ Below w.heap.size w w' := by
  have HN := Lib.hid (hier_New_no3 n1 n2 n3 a1 b1 a2 b2 h3 w)
  have RN := Lib.hid (fun W => ref11_New_no3 n1 n2 n3 a1 b1 a2 b2 h3 W)
  go_enter Tryd.func44, Tryd.ntmps44
  go_wp2_with (first
    | (go_at_call 69; refine (RN.out _).mono ?_; rintro e w2 ⟨rfl, hB2⟩)
    | (go_at_call 38; refine HN.out.mono ?_; rintro e w1 ⟨rfl, hB1⟩))
  go_ret3
  exact ⟨rfl, bthen hB1 hB2⟩
theorem both_no (n1 n2 n3 : Int) (h : ¬ (Ok1 n1 ∧ Ok1 n2 ∧ Ok1 n3)) (w : World) :
    Calls Tryd.prog 44 #[.int .i64 n1, .int .i64 n2, .int .i64 n3] w fun e w' => e = .returned (.tuple #[.pointer none, .pointer none, .bool true]) ∧ Below w.heap.size w w' := by
  unfold Ok1 at h
  by_cases h1 : 1 ≤ n1 ∧ n1 ≤ 64
  · obtain ⟨m1, rfl⟩ := Int.eq_ofNat_of_zero_le (show 0 ≤ n1 by omega)
    by_cases h2 : 1 ≤ n2 ∧ n2 ≤ 64
    · obtain ⟨m2, rfl⟩ := Int.eq_ofNat_of_zero_le (show 0 ≤ n2 by omega)
      exact both_no3 m1 m2 n3 (by omega) (by omega) (by omega) (by omega) (by omega) w
    · exact both_no2 m1 n2 n3 (by omega) (by omega) (by omega) w
  · exact both_no1 n1 n2 n3 (by omega) w
/-- the places behind the calls of a script -/
def stepsR (os : List Op11) (xs : Nat → List Slot) : Nat → List Slot := os.foldl (fun r o => stepR o r) xs
theorem stepsR_snoc (os : List Op11) (o : Op11) (xs : Nat → List Slot) : stepsR (os ++ [o]) xs = stepR o (stepsR os xs) := by simp [stepsR]
theorem stepsR_ok (os : List Op11) (ho : ∀ o ∈ os, o.Ok) : ∀ xs, Ok3 xs → Ok3 (stepsR os xs) := by
  induction os with
  | nil => intro xs h; exact h
  | cons o os ih => intro xs h; exact ih (fun x hx => ho x (List.mem_cons_of_mem _ hx)) _ (stepR_ok o (ho o List.mem_cons_self) xs h)
theorem In6.far {hb rb M B : Nat} {tb gb rtb rgb : Nat → Nat} (ap : Apart 0 M hb tb gb rb rtb rgb) (hf : From B hb tb gb) (hM : B ≤ M) : ∀ i, In6 gb rgb i → B ≤ i := by
  rintro i (⟨k, a, c, rfl⟩ | ⟨k, a, c, rfl⟩)
  · exact (hf.2 k a c).2
  · have := (ap.r.2 k a c).2; omega
set_option maxHeartbeats 6400000 in
set_option maxRecDepth 100000 in
theorem play_yes (n1 n2 n3 : Nat) (a1 : 1 ≤ n1) (b1 : n1 ≤ 64) (a2 : 1 ≤ n2) (b2 : n2 ≤ 64) (a3 : 1 ≤ n3) (b3 : n3 ≤ 64) (kind : Int) (p : Option Addr) (cap : Nat) (os : List Op11) (hos : ∀ o ∈ os, o.Ok) (hmax : os.length ≤ maxLen) (w : World) (hs : Shf w) (hO : OpsIn11 w.heap.size w p os) :
    Calls Tryd.prog 43 #[.int .i64 n1, .int .i64 n2, .int .i64 n3, .slice p os.length cap, .int .i64 kind] w fun e w' => e = .returned (.bool true) ∧ Below w.heap.size w w' := by
  have hml : os.length < 9223372036854775808 := Nat.lt_of_le_of_lt hmax (by decide)
  clear hmax
  have BY := Lib.hid (both_yes n1 n2 n3 a1 b1 a2 b2 a3 b3 w hs)
  have hro := rows3_ok n1 n2 n3
  obtain ⟨xs0, hxs0⟩ : ∃ xs0, rows3 n1 n2 n3 = xs0 := ⟨_, rfl⟩
  rw [hxs0] at BY hro
  clear hxs0
  go_enter Tryd.func43, Tryd.ntmps43
  go_wp2_with (go_at_call 44; refine BY.out.mono ?_; rintro e w1 ⟨M, hb, tb, gb, rb, rtb, rgb, rfl, hH1, hR1, ap, hf, hM, hs1, hB1⟩)
  have far := In6.far ap hf hM
  clear BY
  go_loopw [13, 14] (fun v13 v14 wr => ∃ k : Nat, k ≤ os.length ∧ v14 = .int .i64 k ∧ v13 = .bool true ∧ IsHier wr hb tb gb (stepsR (os.take k) xs0) ∧ IsRef wr rb rtb rgb (stepsR (os.take k) xs0) ∧ Shf wr ∧ Below w.heap.size w wr) (fun _ v14 _ => os.length - (intOf v14).toNat)
  case atStart => exact ⟨0, Nat.zero_le _, rfl, rfl, hH1, hR1, hs1, hB1⟩
  case round =>
    clear hH1 hR1 hs1 hB1
    obtain ⟨k, hk, rfl, rfl, hH, hR, hsr, hB⟩ := hrel
    by_cases hlt : k < os.length
    · obtain ⟨o, hok⟩ : ∃ o, os[k]? = some o := ⟨_, List.getElem?_eq_getElem hlt⟩
      obtain ⟨b, k0, hp, hbl, hc⟩ := hO k o hok
      subst hp
      have hrg : wr.rangeAt b (k0 + k * 19) (op11Cells o) := fun j v hv => (hB.cell hbl).trans (hc j v hv)
      have hoo := hos o (List.mem_of_getElem? hok)
      have hrow := stepsR_ok (os.take k) (fun o ho => hos o (List.mem_of_mem_take ho)) _ hro
      have hst : stepsR (os.take (k + 1)) xs0 = stepR o (stepsR (os.take k) xs0) := by rw [take_snoc os k o hok, stepsR_snoc]
      have ST : Hid (Calls Tryd.prog 45 #[.pointer (some ⟨hb, 0, none⟩), .pointer (some ⟨rb, 0, none⟩), .agg (op11Cells o).toArray] wr (StepPost hb tb gb rb rtb rgb (stepR o (stepsR (os.take k) xs0)) wr)) := Lib.hid (step_is o hoo 0 M hb rb tb gb rtb rgb _ hrow wr hsr hH hR ap)
      have HST := Lib.hid hst
      have hzz := hH.zz hR
      clear hc hok hrow hst
      go_wp2_with (first | (refine wpList_load_mid rfl 79 (.tmp 36) rfl b (k0 + k * 19) rfl (op11Cells o) _ hrg Tryd.underlying79 rfl (by kernel_rfl) ?_) | (go_at_call 45; refine ST.out.mono ?_; rintro e w3 ⟨rfl, hH3, hR3, hG3⟩))
      go_roundw
      case rel => exact ⟨k + 1, by omega, by go_num, rfl, by rw [HST.out]; exact hH3, by rw [HST.out]; exact hR3, hsr.gs hG3 hzz, hB.trans (hG3.bel hB.size far)⟩
      case measure => simp [intOf]; omega
    · go_wp2
      go_ret
      exact ⟨rfl, hB⟩
theorem play_no (n1 n2 n3 : Int) (h : ¬ (Ok1 n1 ∧ Ok1 n2 ∧ Ok1 n3)) (kind : Int) (p : Option Addr) (len cap : Nat) (w : World) :
    Calls Tryd.prog 43 #[.int .i64 n1, .int .i64 n2, .int .i64 n3, .slice p len cap, .int .i64 kind] w fun e w' => e = .returned (.bool true) ∧ Below w.heap.size w w' := by
  have BN := Lib.hid (both_no n1 n2 n3 h w)
  clear h
  go_enter Tryd.func43, Tryd.ntmps43
  go_wp2_with (go_at_call 44; refine BN.out.mono ?_; rintro e w1 ⟨rfl, hB1⟩)
  go_ret
  exact ⟨rfl, hB1⟩
theorem play_is (n1 n2 n3 : Int) (kind : Int) (p : Option Addr) (cap : Nat) (os : List Op11) (hos : ∀ o ∈ os, o.Ok) (hmax : os.length ≤ maxLen) (w : World) (hs : Shf w) (hO : OpsIn11 w.heap.size w p os) :
    Calls Tryd.prog 43 #[.int .i64 n1, .int .i64 n2, .int .i64 n3, .slice p os.length cap, .int .i64 kind] w fun e w' => e = .returned (.bool true) ∧ Below w.heap.size w w' := by
  by_cases h : Ok1 n1 ∧ Ok1 n2 ∧ Ok1 n3
  · obtain ⟨⟨a1, b1⟩, ⟨a2, b2⟩, ⟨a3, b3⟩⟩ := h
    obtain ⟨m1, rfl⟩ := Int.eq_ofNat_of_zero_le (show 0 ≤ n1 by omega)
    obtain ⟨m2, rfl⟩ := Int.eq_ofNat_of_zero_le (show 0 ≤ n2 by omega)
    obtain ⟨m3, rfl⟩ := Int.eq_ofNat_of_zero_le (show 0 ≤ n3 by omega)
    exact play_yes m1 m2 m3 (by omega) (by omega) (by omega) (by omega) (by omega) (by omega) kind p cap os hos hmax w hs hO
  · exact play_no n1 n2 n3 h kind p os.length cap w
theorem HierFinds_walk (n1 n2 n3 : Int) (p : Option Addr) (cap : Nat) (os : List Op11) (hos : ∀ o ∈ os, o.Ok) (hmax : os.length ≤ maxLen) (w : World) (hs : Shf w) (hO : OpsIn11 w.heap.size w p os) :
    Calls Tryd.prog 10 #[.int .i64 n1, .int .i64 n2, .int .i64 n3, .slice p os.length cap] w fun e w' => e = .returned (.bool true) ∧ Below w.heap.size w w' := by
  have PL := Lib.hid (fun kind => play_is n1 n2 n3 kind p cap os hos hmax w hs hO)
  go_enter Tryd.func10, Tryd.ntmps10
  go_wp2_with (go_at_call 43; refine (PL.out _).mono ?_; rintro e w1 ⟨rfl, hB1⟩)
  go_ret
  exact ⟨rfl, hB1⟩
theorem HierKeeps_walk (n1 n2 n3 : Int) (p : Option Addr) (cap : Nat) (os : List Op11) (hos : ∀ o ∈ os, o.Ok) (hmax : os.length ≤ maxLen) (w : World) (hs : Shf w) (hO : OpsIn11 w.heap.size w p os) :
    Calls Tryd.prog 11 #[.int .i64 n1, .int .i64 n2, .int .i64 n3, .slice p os.length cap] w fun e w' => e = .returned (.bool true) ∧ Below w.heap.size w w' := by
  have PL := Lib.hid (fun kind => play_is n1 n2 n3 kind p cap os hos hmax w hs hO)
  go_enter Tryd.func11, Tryd.ntmps11
  go_wp2_with (go_at_call 43; refine (PL.out _).mono ?_; rintro e w1 ⟨rfl, hB1⟩)
  go_ret
  exact ⟨rfl, hB1⟩
theorem HierEvicts_walk (n1 n2 n3 : Int) (p : Option Addr) (cap : Nat) (os : List Op11) (hos : ∀ o ∈ os, o.Ok) (hmax : os.length ≤ maxLen) (w : World) (hs : Shf w) (hO : OpsIn11 w.heap.size w p os) :
    Calls Tryd.prog 12 #[.int .i64 n1, .int .i64 n2, .int .i64 n3, .slice p os.length cap] w fun e w' => e = .returned (.bool true) ∧ Below w.heap.size w w' := by
  have PL := Lib.hid (fun kind => play_is n1 n2 n3 kind p cap os hos hmax w hs hO)
  go_enter Tryd.func12, Tryd.ntmps12
  go_wp2_with (go_at_call 43; refine (PL.out _).mono ?_; rintro e w1 ⟨rfl, hB1⟩)
  go_ret
  exact ⟨rfl, hB1⟩
theorem HierDrops_walk (n1 n2 n3 : Int) (p : Option Addr) (cap : Nat) (os : List Op11) (hos : ∀ o ∈ os, o.Ok) (hmax : os.length ≤ maxLen) (w : World) (hs : Shf w) (hO : OpsIn11 w.heap.size w p os) :
    Calls Tryd.prog 13 #[.int .i64 n1, .int .i64 n2, .int .i64 n3, .slice p os.length cap] w fun e w' => e = .returned (.bool true) ∧ Below w.heap.size w w' := by
  have PL := Lib.hid (fun kind => play_is n1 n2 n3 kind p cap os hos hmax w hs hO)
  go_enter Tryd.func13, Tryd.ntmps13
  go_wp2_with (go_at_call 43; refine (PL.out _).mono ?_; rintro e w1 ⟨rfl, hB1⟩)
  go_ret
  exact ⟨rfl, hB1⟩
end Go.Proofs.YtngcpcgioophcaaDoor
