/- Layer 20: out of another mode a step does not look into the bank of Abort, nor at what a line was asked (plain). Layer 20: each step leaves a state one (plain). Layer 20: an instruction that aborted, done again (plain). Layer 20: a faulted instruction run again is one that did not fault (plain). -/
import Derived.Test.YtpfhplhamnohjaaG23
import Derived.Test.YtpfhplhamnohjaaG21
namespace Go.Proofs.Ytpfhplhamnohjaa
open Go.RowKit

/-- the same but for LR and SPSR of Abort -/
def EQ2 (s s' : Sta) : Prop := ∀ i, i ≠ 20 → i ≠ 25 → s i = s' i
theorem EQ2.refl (s : Sta) : EQ2 s s := fun _ _ _ => rfl
theorem EQ2.set {s s' : Sta} (h : EQ2 s s') (i : Nat) (v : Int) : EQ2 (set s i v) (set s' i v) := fun j a b => by
  unfold Go.Proofs.Ytpfhplhamnohjaa.set
  split
  · rfl
  · exact h j a b
theorem EQ2.at29 {s s' : Sta} (h : EQ2 s s') : s' 29 = s 29 := (h 29 (by omega) (by omega)).symm
theorem EQ2.put {s s' : Sta} (h : EQ2 s s') (n v : Int) : EQ2 (putS s n v) (putS s' n v) := by
  unfold putS
  rw [h.at29]
  split
  · exact h.set _ _
  · exact h.set _ _
theorem EQ2.mark {s s' : Sta} (h : EQ2 s s') (f : Flg) : EQ2 (markS s f) (markS s' f) := by
  unfold markS
  rw [h.at29]
  exact h.set _ _
theorem EQ2.ent {s s' : Sta} (h : EQ2 s s') (m b v : Int) : EQ2 (entS s m b v) (entS s' m b v) := by
  unfold entS
  rw [h.at29]
  exact (((h.set _ _).set _ _).set _ _).set _ _
/-- seen out of a mode that is not Abort -/
structure NA (o o' : Sta) : Prop where
  e : EQ2 o o'
  m : bankW (o 29) ≠ 2
theorem reg_ne (c n : Int) (h : bankW c ≠ 2) : regO c n ≠ 20 ∧ regO c n ≠ 25 := by
  have b := bankW_lt c
  unfold regO
  split
  · omega
  split
  · omega
  split <;> omega
section
variable {o o' : Sta} (h : NA o o')
include h
theorem NA.h29 : o' 29 = o 29 := h.e.at29
theorem NA.get (at_ n : Int) : getI o' at_ n = getI o at_ n := by
  unfold getI
  rw [h.h29]
  split
  · rfl
  · exact (h.e _ (reg_ne _ _ h.m).1 (reg_ne _ _ h.m).2).symm
theorem NA.spsr : o' (23 + (bankW (o 29)).toNat) = o (23 + (bankW (o 29)).toNat) := by
  have b := bankW_lt (o 29)
  have m := h.m
  exact (h.e _ (by omega) (by omega)).symm
theorem NA.user : userB o' = userB o := by unfold userB; rw [h.h29]
theorem NA.oper (at_ : Int) (i : Ins) : operI o' at_ i = operI o at_ i := by unfold operI; simp only [h.get, h.h29]
theorem NA.dataW (at_ : Int) (i : Ins) : dataW o' at_ i = dataW o at_ i := by unfold Go.Proofs.Ytpfhplhamnohjaa.dataW; simp only [h.get, h.h29, h.oper]
theorem NA.dataF (at_ : Int) (i : Ins) : dataF o' at_ i = dataF o at_ i := by unfold Go.Proofs.Ytpfhplhamnohjaa.dataF; simp only [h.get, h.h29, h.oper]
theorem NA.wide (at_ : Int) (i : Ins) : wideV o' at_ i = wideV o at_ i := by unfold wideV; simp only [h.get]
theorem NA.prodF (a b : Int) (c : Bool) : prodF o' a b c = prodF o a b c := by unfold Go.Proofs.Ytpfhplhamnohjaa.prodF; simp only [h.h29]
theorem NA.offU (at_ : Int) (i : Ins) : offU o' at_ i = offU o at_ i := by unfold Go.Proofs.Ytpfhplhamnohjaa.offU offI; simp only [h.oper]
theorem NA.oneAt (at_ : Int) (i : Ins) : oneAt o' at_ i = oneAt o at_ i := by unfold Go.Proofs.Ytpfhplhamnohjaa.oneAt; simp only [h.get, h.offU]
theorem NA.toI (at_ : Int) (i : Ins) : toI o' at_ i = toI o at_ i := by unfold Go.Proofs.Ytpfhplhamnohjaa.toI; simp only [h.get]
theorem NA.manyAt (at_ : Int) (i : Ins) : manyAt o' at_ i = manyAt o at_ i := by unfold Go.Proofs.Ytpfhplhamnohjaa.manyAt manyA0; simp only [h.get]
theorem NA.manyE (at_ : Int) (i : Ins) : manyE o' at_ i = manyE o at_ i := by unfold Go.Proofs.Ytpfhplhamnohjaa.manyE; simp only [h.get]
theorem NA.msrV (at_ : Int) (i : Ins) : msrV o' at_ i = msrV o at_ i := by unfold Go.Proofs.Ytpfhplhamnohjaa.msrV; simp only [h.get]
theorem NA.backB : backB o' = backB o := by unfold Go.Proofs.Ytpfhplhamnohjaa.backB; rw [h.h29, h.spsr]
theorem NA.backT (v : Int) : EQ2 (backT o v) (backT o' v) := by
  unfold Go.Proofs.Ytpfhplhamnohjaa.backT
  rw [h.h29, h.spsr]
  exact (h.e.set _ _).set _ _
end
/-- what two runs give up with, or leave -/
def OutE : Out → Out → Prop
  | .ok a, .ok b => EQ2 a b
  | .un, .un => True
  | .ab p, .ab q => p = q
  | _, _ => False
def OptE : Option Sta → Option Sta → Prop
  | some a, some b => EQ2 a b
  | none, none => True
  | _, _ => False
theorem OptE.out {a b : Option Sta} (h : OptE a b) : OutE (outOf a) (outOf b) := by
  cases a <;> cases b <;> first | exact h | exact h.elim | trivial
section
variable {o o' s s' : Sta} (h : NA o o') (k : NA s s')
include h k
theorem data_e (at_ : Int) (i : Ins) : OptE (dataS o s at_ i) (dataS o' s' at_ i) := by
  unfold dataS
  rw [h.dataW, h.dataF, k.backB]
  split
  · split
    · exact k.backT _
    · trivial
  · have P : EQ2 (if doB i.op then putS s i.rd (dataW o at_ i) else s) (if doB i.op then putS s' i.rd (dataW o at_ i) else s') := by
      split
      · exact k.e.put _ _
      · exact k.e
    split
    · exact P.mark _
    · exact P
theorem prod_e (at_ : Int) (i : Ins) : EQ2 (prodS o s at_ i) (prodS o' s' at_ i) := by
  unfold prodS
  simp only [h.get, h.prodF]
  split
  · split
    · exact (k.e.put _ _).mark _
    · exact k.e.put _ _
  · split
    · exact ((k.e.put _ _).put _ _).mark _
    · exact (k.e.put _ _).put _ _
theorem one_e (at_ : Int) (i : Ins) (x : Int) : EQ2 (oneS o s at_ i x) (oneS o' s' at_ i x) := by
  have B : EQ2 (oneB o s at_ i) (oneB o' s' at_ i) := by
    unfold oneB
    simp only [h.get, h.offU]
    split
    · exact k.e.put _ _
    · exact k.e
  unfold oneS
  split
  · exact B
  · exact B.put _ _
theorem many_e (at_ : Int) (i : Ins) (vs : Nat → Int) : ∀ n, EQ2 (mputs (manyW o s at_ i) i vs n) (mputs (manyW o' s' at_ i) i vs n)
  | 0 => by
    show EQ2 (manyW o s at_ i) (manyW o' s' at_ i)
    unfold manyW
    rw [h.manyE]
    split
    · exact k.e.put _ _
    · exact k.e
  | n + 1 => by
    have p := many_e at_ i vs n
    unfold mputs
    split
    · exact p.put _ _
    · exact p
theorem branch_e (at_ : Int) (i : Ins) : EQ2 (branchS o s at_ i) (branchS o' s' at_ i) := by
  unfold branchS
  rw [h.toI]
  refine EQ2.put ?_ _ _
  split
  · exact k.e.put _ _
  · exact k.e
theorem stat_e (at_ : Int) (i : Ins) (_hm : bankW (s 29) = bankW (o 29)) : OptE (statS o s at_ i) (statS o' s' at_ i) := by
  have b := bankW_lt (o 29)
  have m := h.m
  have sp : s' (23 + (ownN o).toNat) = s (23 + (ownN o).toNat) := (k.e _ (by unfold ownN; omega) (by unfold ownN; omega)).symm
  have e1 : ownN o' = ownN o := by unfold ownN; rw [h.h29]
  have e2 : o' (23 + (ownN o).toNat) = o (23 + (ownN o).toNat) := h.spsr
  unfold statS
  rw [e1, e2, h.h29, h.user, h.msrV, sp]
  split
  · split
    · split
      · trivial
      · exact k.e.put _ _
    · exact k.e.put _ _
  split
  · split
    · trivial
    · exact k.e.set _ _
  · dsimp only
    generalize msrX (o 29) (msrV o at_ i) (if userB o = true then bits .and .u32 (msrB i) 4026531840 else msrB i) = v
    split
    · exact k.e.set _ _
    · trivial
end
/-- two lines that hold the same, whatever they were asked -/
structure LineR (m m' : LineM) : Prop where
  p : m'.puts = m.puts
  h : m'.holes = m.holes
  c : m'.cop = m.cop
theorem LineR.acc {m m' : LineM} (h : LineR m m') (k va n v : Int) (p : Bool) : LineR (accLine m k va n v p).1 (accLine m' k va n v p).1 ∧ (accLine m' k va n v p).2 = (accLine m k va n v p).2 := by
  obtain ⟨a, b, c⟩ := h
  unfold accLine
  dsimp only
  rw [a, b]
  split
  · exact ⟨⟨rfl, rfl, c⟩, rfl⟩
  split
  · exact ⟨⟨rfl, rfl, c⟩, rfl⟩
  · exact ⟨⟨rfl, rfl, c⟩, rfl⟩
/-- two runs of a load or a store of many -/
def RunE : Except (LineM × List PanicEntry) (LineM × Int × (Nat → Int)) → Except (LineM × List PanicEntry) (LineM × Int × (Nat → Int)) → Prop
  | .ok a, .ok b => LineR a.1 b.1 ∧ b.2 = a.2
  | .error a, .error b => LineR a.1 b.1 ∧ b.2 = a.2
  | _, _ => False
theorem mrun_e {o o' : Sta} (h : NA o o') {m m' : LineM} (r : LineR m m') (at_ : Int) (i : Ins) : ∀ n, RunE (mrun lineF m o at_ i n) (mrun lineF m' o' at_ i n)
  | 0 => by
    unfold mrun
    rw [h.manyAt]
    exact ⟨r, rfl⟩
  | n + 1 => by
    have ih := mrun_e h r at_ i n
    unfold mrun
    generalize mrun lineF m o at_ i n = x at ih ⊢
    generalize mrun lineF m' o' at_ i n = y at ih ⊢
    cases x with
    | error a => cases y with
      | error b => exact ih
      | ok b => exact ih.elim
    | ok a => cases y with
      | error b => exact ih.elim
      | ok b =>
        obtain ⟨ih1, ih2⟩ := ih
        dsimp only
        unfold mstep
        rw [h.get, h.user, ih2]
        split
        · exact ⟨ih1, ih2⟩
        · dsimp only [lineF]
          have A := ih1.acc (if i.op = 39 then 2 else 3) a.2.1 4 (if i.op = 39 then 0 else getI o at_ n) (!userB o)
          rw [A.2]
          by_cases q : (accLine a.1 (if i.op = 39 then 2 else 3) a.2.1 4 (if i.op = 39 then 0 else getI o at_ n) (!userB o)).2.ok = true
          · rw [if_pos q, if_pos q]; exact ⟨A.1, rfl⟩
          · rw [if_neg q, if_neg q]; exact ⟨A.1, rfl⟩
theorem exec_e {o o' s s' : Sta} (h : NA o o') (k : NA s s') {m m' : LineM} (r : LineR m m') (at_ : Int) (i : Ins) (hm : bankW (s 29) = bankW (o 29)) :
    LineR (execO lineF m o s at_ i).1 (execO lineF m' o' s' at_ i).1 ∧ OutE (execO lineF m o s at_ i).2 (execO lineF m' o' s' at_ i).2 := by
  unfold execO
  by_cases h16 : i.op ≤ 16
  · rw [if_pos h16, if_pos h16]; exact ⟨r, (data_e h k at_ i).out⟩
  rw [if_neg h16, if_neg h16]
  by_cases h18 : i.op ≤ 18
  · rw [if_pos h18, if_pos h18, h.wide]; exact ⟨r, k.e.put _ _⟩
  rw [if_neg h18, if_neg h18]
  by_cases h24 : i.op ≤ 24
  · rw [if_pos h24, if_pos h24]; exact ⟨r, prod_e h k at_ i⟩
  rw [if_neg h24, if_neg h24]
  by_cases h30 : i.op ≤ 30
  · rw [if_pos h30, if_pos h30, h.get]; exact ⟨r, k.e.put _ _⟩
  rw [if_neg h30, if_neg h30]
  by_cases h38 : i.op ≤ 38
  · rw [if_pos h38, if_pos h38]
    have e : oneR lineF m' o' at_ i = accLine m' (if storeB i.op then 3 else 2) (oneAt o at_ i) (sizeI i.op) (if storeB i.op then getI o at_ i.rd else 0) (!userB o) := by
      unfold oneR
      rw [h.oneAt, h.get, h.user]
      rfl
    have A := r.acc (if storeB i.op then 3 else 2) (oneAt o at_ i) (sizeI i.op) (if storeB i.op then getI o at_ i.rd else 0) (!userB o)
    have e2 : oneR lineF m o at_ i = accLine m (if storeB i.op then 3 else 2) (oneAt o at_ i) (sizeI i.op) (if storeB i.op then getI o at_ i.rd else 0) (!userB o) := rfl
    unfold oneP
    rw [e, e2, A.2, h.oneAt, h.get, h.user]
    refine ⟨A.1, ?_⟩
    by_cases q : (accLine m (if storeB i.op then 3 else 2) (oneAt o at_ i) (sizeI i.op) (if storeB i.op then getI o at_ i.rd else 0) (!userB o)).2.ok = true
    · rw [if_pos q, if_pos q]; exact one_e h k at_ i _
    · rw [if_neg q, if_neg q]; rfl
  rw [if_neg h38, if_neg h38]
  by_cases h40 : i.op ≤ 40
  · rw [if_pos h40, if_pos h40]
    have R := mrun_e h r at_ i 16
    unfold manyO
    generalize mrun lineF m o at_ i 16 = x at R ⊢
    generalize mrun lineF m' o' at_ i 16 = y at R ⊢
    cases x with
    | error a => cases y with
      | error b => exact ⟨R.1, R.2.symm⟩
      | ok b => exact R.elim
    | ok a => cases y with
      | error b => exact R.elim
      | ok b =>
        refine ⟨R.1, ?_⟩
        dsimp only
        rw [R.2]
        exact many_e h k at_ i _ 16
  rw [if_neg h40, if_neg h40]
  by_cases h44 : i.op ≤ 44
  · rw [if_pos h44, if_pos h44]; exact ⟨r, branch_e h k at_ i⟩
  rw [if_neg h44, if_neg h44]
  by_cases h46 : i.op ≤ 46
  · rw [if_pos h46, if_pos h46]; exact ⟨r, k.e⟩
  rw [if_neg h46, if_neg h46]
  by_cases h48 : i.op ≤ 48
  · rw [if_pos h48, if_pos h48]; exact ⟨r, (stat_e h k at_ i hm).out⟩
  rw [if_neg h48, if_neg h48]
  by_cases h49 : i.op = 49
  · rw [if_pos h49, if_pos h49, h.get, h.user]
    refine ⟨⟨r.p, r.h, ?_⟩, ?_⟩
    · show (if mayI i.crn (userB o) = 0 then _ else m'.cop) = (if mayI i.crn (userB o) = 0 then _ else m.cop)
      rw [r.c]
    · show OutE (if mayI i.crn (userB o) = 0 then _ else _) (if mayI i.crn (userB o) = 0 then _ else _)
      split
      · exact k.e
      · trivial
  rw [if_neg h49, if_neg h49]
  by_cases h50 : i.op = 50
  · rw [if_pos h50, if_pos h50, h.user]
    refine ⟨⟨r.p, r.h, r.c⟩, ?_⟩
    show OutE (if mayI i.crn (userB o) = 0 then .ok (putS s i.rd (if mayI i.crn (userB o) = 0 then bits .or .u32 (m.cop * 16 % 4294967296) (m.cop / 268435456) else 0)) else .un) (if mayI i.crn (userB o) = 0 then .ok (putS s' i.rd (if mayI i.crn (userB o) = 0 then bits .or .u32 (m'.cop * 16 % 4294967296) (m'.cop / 268435456) else 0)) else .un)
    rw [r.c]
    split
    · exact k.e.put _ _
    · trivial
  rw [if_neg h50, if_neg h50]
  exact ⟨r, k.e⟩
theorem does_e {s s' : Sta} (k : EQ2 s s') (at_ : Int) (x : Tk) {a b : Out} (h : OutE a b) : EQ2 (doesS s at_ a) (doesS s' at_ b) ∧ doesT x b = doesT x a := by
  cases a <;> cases b <;> first | exact h.elim | skip
  · exact ⟨h, rfl⟩
  · exact ⟨k.ent _ _ _, rfl⟩
  · obtain rfl := h
    exact ⟨k.ent _ _ _, rfl⟩
theorem took_e {s s' : Sta} (k : NA s s') {m m' : LineM} (r : LineR m m') (i : Ins) (ok : Bool) (t : Tk) :
    LineR (tookO lineF m s false i ok t).1 (tookO lineF m' s' false i ok t).1 ∧ EQ2 (tookO lineF m s false i ok t).2.1 (tookO lineF m' s' false i ok t).2.1 ∧ (tookO lineF m' s' false i ok t).2.2 = (tookO lineF m s false i ok t).2.2 := by
  have e28 : s' 28 = s 28 := (k.e 28 (by omega) (by omega)).symm
  unfold tookO
  rw [e28, k.h29]
  split
  · exact ⟨r, k.e.ent _ _ _, rfl⟩
  split
  · exact ⟨r, k.e.set _ _, rfl⟩
  split
  · exact ⟨r, k.e.ent _ _ _, rfl⟩
  split
  · exact ⟨r, k.e.ent _ _ _, rfl⟩
  split
  · exact ⟨r, k.e, rfl⟩
  dsimp only
  have e29 : set s 28 ((s 28 + 4) % 4294967296) 29 = s 29 := by unfold set; rw [if_neg (by omega)]
  have X := exec_e k (s := set s 28 ((s 28 + 4) % 4294967296)) (s' := set s' 28 ((s 28 + 4) % 4294967296)) ⟨k.e.set _ _, by rw [e29]; exact k.m⟩ r (s 28) i (by rw [e29])
  have D := does_e k.e (s 28) t X.2
  exact ⟨X.1, D.1, D.2⟩
/-- the same step over two lines that hold the same, out of two states that differ in the bank of Abort alone -/
theorem step_e {s s' : Sta} (k : NA s s') {m m' : LineM} (r : LineR m m') :
    LineR (stepO lineF m s false).1 (stepO lineF m' s' false).1 ∧ EQ2 (stepO lineF m s false).2.1 (stepO lineF m' s' false).2.1 ∧ (stepO lineF m' s' false).2.2 = (stepO lineF m s false).2.2 := by
  have e28 : s' 28 = s 28 := (k.e 28 (by omega) (by omega)).symm
  have A := r.acc 1 (s 28) 4 0 (!userB s)
  unfold stepO
  rw [if_neg (show ¬ (false = true ∧ bits .and .u32 (s 29) 128 = 0) by simp), if_neg (show ¬ (false = true ∧ bits .and .u32 (s' 29) 128 = 0) by simp), e28, k.user]
  dsimp only [lineF]
  rw [A.2]
  by_cases q : (accLine m 1 (s 28) 4 0 (!userB s)).2.ok = false
  · rw [if_pos q, if_pos q]; exact ⟨A.1, k.e.ent _ _ _, rfl⟩
  · rw [if_neg q, if_neg q]; exact took_e k A.1 _ _ _
end Go.Proofs.Ytpfhplhamnohjaa
namespace Go.Proofs.Ytpfhplhamnohjaa
open Go.RowKit

/-- a state: a mode that is one, a PC of words, no bit that is not kept, and no SPSR of a user's -/
structure IL (s : Sta) : Prop where
  mode : (bankB (s 29 % 32)).2 = true
  pc : s 28 % 4 = 0
  own : bits .andNot .u32 (s 29) 4026531999 = 0
  z : s 23 = 0
  k : ∀ i, 23 < i → i < 28 → bits .andNot .u32 (s i) 4026531999 = 0
theorem isL_iff (s : Sta) (hs : OkS s) : isL s = true ↔ IL s := by
  have p : bits .and .u32 (s 28) 3 = s 28 % 4 := and32 2 (by decide) (s 28) (hs 28 (by omega)).1 (by simpa using (hs 28 (by omega)).2)
  unfold isL
  simp only [Bool.and_eq_true, beq_iff_eq, p]
  constructor
  · rintro ⟨⟨⟨⟨⟨⟨⟨⟨a, b⟩, c⟩, d⟩, e⟩, f⟩, g⟩, h⟩, i⟩
    refine ⟨a, b, c, d, fun j h1 h2 => ?_⟩
    have q : j = 24 ∨ j = 25 ∨ j = 26 ∨ j = 27 := by omega
    rcases q with rfl | rfl | rfl | rfl <;> assumption
  · rintro ⟨a, b, c, d, e⟩
    exact ⟨⟨⟨⟨⟨⟨⟨⟨a, b⟩, c⟩, d⟩, by rw [d]; decide⟩, e 24 (by omega) (by omega)⟩, e 25 (by omega) (by omega)⟩, e 26 (by omega) (by omega)⟩, e 27 (by omega) (by omega)⟩
theorem il_low {s : Sta} (h : IL s) (i : Nat) (v : Int) (hi : i < 23) : IL (set s i v) := by
  have e : ∀ j, 23 ≤ j → set s i v j = s j := fun j q => by unfold set; rw [if_neg (by omega)]
  exact ⟨by rw [e 29 (by omega)]; exact h.mode, by rw [e 28 (by omega)]; exact h.pc, by rw [e 29 (by omega)]; exact h.own, by rw [e 23 (by omega)]; exact h.z, fun j a b => by rw [e j (by omega)]; exact h.k j a b⟩
theorem il_pc {s : Sta} (h : IL s) (v : Int) (hv : v % 4 = 0) : IL (set s 28 v) := by
  have e : ∀ j, j ≠ 28 → set s 28 v j = s j := fun j q => by unfold set; rw [if_neg q]
  exact ⟨by rw [e 29 (by omega)]; exact h.mode, by unfold set; rw [if_pos rfl]; exact hv, by rw [e 29 (by omega)]; exact h.own, by rw [e 23 (by omega)]; exact h.z, fun j a b => by rw [e j (by omega)]; exact h.k j a b⟩
theorem il_cpsr {s : Sta} (h : IL s) (v : Int) (hm : (bankB (v % 32)).2 = true) (hk : bits .andNot .u32 v 4026531999 = 0) : IL (set s 29 v) := by
  have e : ∀ j, j ≠ 29 → set s 29 v j = s j := fun j q => by unfold set; rw [if_neg q]
  have e2 : set s 29 v 29 = v := by unfold set; rw [if_pos rfl]
  exact ⟨by rw [e2]; exact hm, by rw [e 28 (by omega)]; exact h.pc, by rw [e2]; exact hk, by rw [e 23 (by omega)]; exact h.z, fun j a b => by rw [e j (by omega)]; exact h.k j a b⟩
theorem il_spsr {s : Sta} (h : IL s) (i : Nat) (v : Int) (h1 : 23 < i) (h2 : i < 28) (hk : bits .andNot .u32 v 4026531999 = 0) : IL (set s i v) := by
  have e : ∀ j, j ≠ i → set s i v j = s j := fun j q => by unfold set; rw [if_neg q]
  refine ⟨by rw [e 29 (by omega)]; exact h.mode, by rw [e 28 (by omega)]; exact h.pc, by rw [e 29 (by omega)]; exact h.own, by rw [e 23 (by omega)]; exact h.z, fun j a b => ?_⟩
  by_cases q : j = i
  · subst q; unfold set; rw [if_pos rfl]; exact hk
  · rw [e j q]; exact h.k j a b
theorem and3_mod (v : Int) : and3 v % 4 = 0 := by
  unfold and3
  rw [bv_not]
  have e : (BitVec.ofInt 32 v &&& ~~~ 3#32).setWidth 2 = 0#2 := by
    rw [BitVec.setWidth_and]
    rw [show (~~~ 3#32).setWidth 2 = 0#2 by decide, BitVec.and_zero]
  have n := congrArg BitVec.toNat e
  rw [BitVec.toNat_setWidth] at n
  rw [show BitVec.ofInt 32 3 = 3#32 from rfl]
  simp only [BitVec.toNat_ofNat] at n
  omega
theorem il_put {s : Sta} (h : IL s) (n v : Int) (hn : n < 16) : IL (putS s n v) := by
  unfold putS
  split
  · exact il_pc h _ (and3_mod v)
  · refine il_low h _ _ ?_
    have b := bankW_lt (s 29)
    unfold regO
    split
    · omega
    split
    · omega
    split <;> omega
theorem keep_or (A B : BitVec 32) (C : BitVec 32) (h : A &&& ~~~ C = 0#32) (k : B &&& ~~~ C = 0#32) : (A ||| B) &&& ~~~ C = 0#32 := by
  rw [BitVec.and_comm, BitVec.and_or_distrib_left, BitVec.and_comm, h, BitVec.and_comm, k, BitVec.or_self]
theorem nk_iff (x c : Int) : bits .andNot .u32 x c = 0 ↔ BitVec.ofInt 32 x &&& ~~~ BitVec.ofInt 32 c = 0#32 := by
  rw [bv_not]
  constructor
  · intro h
    apply BitVec.eq_of_toNat_eq
    have : (BitVec.ofInt 32 x &&& ~~~ BitVec.ofInt 32 c).toNat = 0 := by omega
    simpa using this
  · intro h; rw [h]; rfl
theorem nk_or {x y : Int} (h : bits .andNot .u32 x 4026531999 = 0) (k : bits .andNot .u32 y 4026531999 = 0) : bits .andNot .u32 (bits .or .u32 x y) 4026531999 = 0 := by
  rw [nk_iff] at h k ⊢
  rw [bv_or, bv_back]
  exact keep_or _ _ _ h k
theorem nk_and {x y : Int} (h : bits .andNot .u32 x 4026531999 = 0 ∨ bits .andNot .u32 y 4026531999 = 0) : bits .andNot .u32 (bits .and .u32 x y) 4026531999 = 0 := by
  rw [nk_iff, nk_iff] at h
  rw [nk_iff, bv_and, bv_back]
  rcases h with h | h
  · rw [BitVec.and_assoc, BitVec.and_comm (BitVec.ofInt 32 y), ← BitVec.and_assoc, h, BitVec.zero_and]
  · rw [BitVec.and_assoc, h, BitVec.and_zero]
theorem nk_not {x y : Int} (h : bits .andNot .u32 x 4026531999 = 0) : bits .andNot .u32 (bits .andNot .u32 x y) 4026531999 = 0 := by
  rw [nk_iff] at h
  rw [nk_iff, bv_not, bv_back]
  rw [BitVec.and_assoc, BitVec.and_comm (~~~ BitVec.ofInt 32 y), ← BitVec.and_assoc, h, BitVec.zero_and]
theorem il_mark {s : Sta} (h : IL s) (hs : OkS s) (f : Flg) : IL (markS s f) := by
  unfold markS
  refine il_cpsr h _ ?_ (nk_or (nk_not h.own) ?_)
  · have l : bits .or .u32 (bits .andNot .u32 (s 29) 4026531840) (wordF f) % 32 = s 29 % 32 := by
      have l2 := low28 (s 29) (wordF f) (hs 29 (by omega)) (wordF_low f).1 (wordF_low f).2
      omega
    rw [l]; exact h.mode
  · unfold wordF
    split <;> split <;> split <;> split <;> decide
theorem il_msrB (i : Ins) : bits .andNot .u32 (msrB i) 4026531999 = 0 := by
  unfold msrB
  split <;> split <;> decide
theorem il_msrX {o v m : Int} (h : bits .andNot .u32 o 4026531999 = 0) (k : bits .andNot .u32 m 4026531999 = 0) : bits .andNot .u32 (msrX o v m) 4026531999 = 0 := by
  unfold msrX
  exact nk_or (nk_not h) (nk_and (.inr k))
theorem il_stat {o s s' : Sta} (hs : IL s) (e29 : s 29 = o 29) (at_ : Int) (i : Ins) (hi : InsOk i) (h : statS o s at_ i = some s') : IL s' := by
  have b := own_lt o
  unfold statS at h
  split at h
  · split at h
    · split at h
      · cases h
      · rw [← Option.some.inj h]; exact il_put hs _ _ hi.rd.2
    · rw [← Option.some.inj h]; exact il_put hs _ _ hi.rd.2
  split at h
  · split at h
    · cases h
    · rename_i q
      rw [← Option.some.inj h]; exact il_spsr hs _ _ (by omega) (by omega) (il_msrX (hs.k _ (by omega) (by omega)) (il_msrB i))
  · have M : bits .andNot .u32 (if userB o then bits .and .u32 (msrB i) 4026531840 else msrB i) 4026531999 = 0 := by
      split
      · exact nk_and (.inl (il_msrB i))
      · exact il_msrB i
    dsimp only at h
    have key : ∀ v : Int, bits .andNot .u32 v 4026531999 = 0 → (if (bankB (v % 32)).2 = true then some (set s 29 v) else none) = some s' → IL s' := fun v hv e => by
      split at e
      · rename_i q; rw [← Option.some.inj e]; exact il_cpsr hs _ q hv
      · cases e
    exact key _ (il_msrX (by rw [← e29]; exact hs.own) M) h
theorem il_back {s : Sta} (h : IL s) (hb : backB s = true) (v : Int) : IL (backT s v) := by
  unfold backB at hb
  have b := bankW_lt (s 29)
  simp only [Bool.and_eq_true, Bool.not_eq_true', beq_eq_false_iff_ne, ne_eq] at hb
  unfold backT
  exact il_pc (il_cpsr h _ hb.2 (h.k _ (by omega) (by omega))) _ (and3_mod v)
theorem il_data {o s s' : Sta} (h : IL s) (hs : OkS s) (ho : OkS o) (at_ : Int) (i : Ins) (hi : InsOk i) (e : dataS o s at_ i = some s') : IL s' := by
  unfold dataS at e
  split at e
  · split at e
    · rename_i q; rw [← Option.some.inj e]; exact il_back h q _
    · cases e
  · rw [← Option.some.inj e]
    have P : IL (if doB i.op then putS s i.rd (dataW o at_ i) else s) ∧ OkS (if doB i.op then putS s i.rd (dataW o at_ i) else s) := by
      split
      · exact ⟨il_put h _ _ hi.rd.2, okS_put hs _ (dataW_u o at_ i ho hi)⟩
      · exact ⟨h, hs⟩
    split
    · exact il_mark P.1 P.2 _
    · exact P.1
theorem il_prod {s : Sta} (h : IL s) (hs : OkS s) (o : Sta) (at_ : Int) (i : Ins) (hi : InsOk i) (ha : i.ra < 16) : IL (prodS o s at_ i) := by
  have L := fun a b c d => longI_u i.op a b c d
  unfold prodS
  split
  · dsimp only
    split
    · exact il_mark (il_put h _ _ hi.rd.2) (okS_put hs _ (L _ _ _ _).2) _
    · exact il_put h _ _ hi.rd.2
  · dsimp only
    split
    · exact il_mark (il_put (il_put h _ _ ha) _ _ hi.rd.2) (okS_put (okS_put hs _ (L _ _ _ _).2) _ (L _ _ _ _).1) _
    · exact il_put (il_put h _ _ ha) _ _ hi.rd.2
theorem il_one {s : Sta} (h : IL s) (o : Sta) (at_ : Int) (i : Ins) (hi : InsOk i) (x : Int) : IL (oneS o s at_ i x) := by
  have B : IL (oneB o s at_ i) := by
    unfold oneB
    split
    · exact il_put h _ _ hi.rn.2
    · exact h
  unfold oneS
  split
  · exact B
  · exact il_put B _ _ hi.rd.2
theorem il_puts {s : Sta} (h : IL s) (i : Ins) (vs : Nat → Int) : ∀ k, k ≤ 16 → IL (mputs s i vs k)
  | 0, _ => h
  | k + 1, q => by
    have p := il_puts h i vs k (by omega)
    unfold mputs
    split
    · exact il_put p _ _ (by omega)
    · exact p
theorem il_many {s : Sta} (h : IL s) (o : Sta) (at_ : Int) (i : Ins) (hi : InsOk i) (vs : Nat → Int) : IL (mputs (manyW o s at_ i) i vs 16) := by
  refine il_puts ?_ i vs 16 (Nat.le_refl _)
  unfold manyW
  split
  · exact il_put h _ _ hi.rn.2
  · exact h
theorem il_branch {s : Sta} (h : IL s) (o : Sta) (at_ : Int) (i : Ins) : IL (branchS o s at_ i) := by
  unfold branchS
  refine il_put ?_ _ _ (by omega)
  split
  · exact il_put h _ _ (by omega)
  · exact h
theorem exec_il {M : Type} (F : BusM M) (m : M) (o s : Sta) (at_ : Int) (i : Ins) (hl : IL s) (hs : OkS s) (ho : OkS o) (e29 : s 29 = o 29) (hi : InsOk i) (s' : Sta) (h : (execO F m o s at_ i).2 = .ok s') : IL s' := by
  unfold execO at h
  have oo : ∀ r : Option Sta, outOf r = .ok s' → r = some s' := fun r e => by
    cases r with
    | none => cases e
    | some x => simp only [outOf, Out.ok.injEq] at e; rw [e]
  by_cases h16 : i.op ≤ 16
  · rw [if_pos h16] at h; exact il_data hl hs ho at_ i hi (oo _ h)
  rw [if_neg h16] at h
  by_cases h18 : i.op ≤ 18
  · rw [if_pos h18] at h; rw [← Out.ok.inj h]; exact il_put hl _ _ hi.rd.2
  rw [if_neg h18] at h
  by_cases h24 : i.op ≤ 24
  · rw [if_pos h24] at h; rw [← Out.ok.inj h]; exact il_prod hl hs _ _ _ hi hi.ra.2
  rw [if_neg h24] at h
  by_cases h30 : i.op ≤ 30
  · rw [if_pos h30] at h; rw [← Out.ok.inj h]; exact il_put hl _ _ hi.rd.2
  rw [if_neg h30] at h
  by_cases h38 : i.op ≤ 38
  · rw [if_pos h38] at h
    dsimp only at h
    split at h
    · rw [← Out.ok.inj h]; exact il_one hl _ _ _ hi _
    · cases h
  rw [if_neg h38] at h
  by_cases h40 : i.op ≤ 40
  · rw [if_pos h40] at h
    unfold manyO at h
    cases q : mrun F m o at_ i 16 with
    | error e => rw [q] at h; cases h
    | ok st =>
      rw [q] at h
      rw [← Out.ok.inj h]
      exact il_many hl _ _ _ hi _
  rw [if_neg h40] at h
  by_cases h44 : i.op ≤ 44
  · rw [if_pos h44] at h; rw [← Out.ok.inj h]; exact il_branch hl _ _ _
  rw [if_neg h44] at h
  by_cases h46 : i.op ≤ 46
  · rw [if_pos h46] at h; rw [← Out.ok.inj h]; exact hl
  rw [if_neg h46] at h
  by_cases h48 : i.op ≤ 48
  · rw [if_pos h48] at h; exact il_stat hl e29 at_ i hi (oo _ h)
  rw [if_neg h48] at h
  by_cases h49 : i.op = 49
  · rw [if_pos h49] at h
    dsimp only at h
    split at h
    · rw [← Out.ok.inj h]; exact hl
    · cases h
  rw [if_neg h49] at h
  by_cases h50 : i.op = 50
  · rw [if_pos h50] at h
    dsimp only at h
    split at h
    · rw [← Out.ok.inj h]; exact il_put hl _ _ hi.rd.2
    · cases h
  rw [if_neg h50] at h
  rw [← Out.ok.inj h]; exact hl
theorem il_ent {s : Sta} (h : IL s) (m b v : Int) (hm : m = 18 ∨ m = 19 ∨ m = 23 ∨ m = 27) (hv : v % 4 = 0) : IL (entS s m b v) := by
  have B : 1 ≤ (bankB m).1 ∧ (bankB m).1 ≤ 4 := by rcases hm with rfl | rfl | rfl | rfl <;> decide
  have M : (bankB m).2 = true ∧ m % 32 = m ∧ bits .andNot .u32 m 4026531999 = 0 ∧ BitVec.ofInt 32 m &&& 31#32 = BitVec.ofInt 32 m ∧ ((BitVec.ofInt 32 m).toNat : Int) = m := by rcases hm with rfl | rfl | rfl | rfl <;> decide
  unfold entS
  refine il_pc (il_cpsr (il_low (il_spsr h _ _ (by omega) (by omega) h.own) _ _ (by omega)) _ ?_ (nk_or (nk_or (nk_not h.own) M.2.2.1) (by decide))) v hv
  have q : bits .or .u32 (bits .or .u32 (bits .andNot .u32 (s 29) 31) m) 128 % 32 = m := by
    rw [bv_or, bv_or, bv_not, bv_back, bv_back]
    have e : ((((BitVec.ofInt 32 (s 29) &&& ~~~ 31#32) ||| BitVec.ofInt 32 m) ||| 128#32).setWidth 5) = (BitVec.ofInt 32 m).setWidth 5 := by
      rw [BitVec.setWidth_or, BitVec.setWidth_or, BitVec.setWidth_and, show (~~~ 31#32).setWidth 5 = 0#5 by decide, show (128#32).setWidth 5 = 0#5 by decide, BitVec.and_zero, BitVec.zero_or, BitVec.or_zero]
    have n := congrArg BitVec.toNat e
    rw [BitVec.toNat_setWidth, BitVec.toNat_setWidth] at n
    rw [show BitVec.ofInt 32 31 = 31#32 from rfl, show BitVec.ofInt 32 128 = 128#32 from rfl]
    omega
  rw [q]; exact M.1
theorem step_il {M : Type} (F : BusM M) (m : M) (s : Sta) (on : Bool) (hl : IL s) (hs : OkS s) : IL (stepO F m s on).2.1 := by
  have h4 : ∀ x : Int, 0 ≤ (x + 4) % 4294967296 ∧ (x + 4) % 4294967296 < 4294967296 := fun x => by omega
  have p := hl.pc
  unfold stepO
  split
  · exact il_ent hl _ _ _ (by omega) (by decide)
  dsimp only
  split
  · exact il_ent hl _ _ _ (by omega) (by decide)
  unfold tookO
  split
  · exact il_ent hl _ _ _ (by omega) (by decide)
  split
  · exact il_pc hl _ (by omega)
  split
  · exact il_ent hl _ _ _ (by omega) (by decide)
  split
  · exact il_ent hl _ _ _ (by omega) (by decide)
  split
  · exact hl
  dsimp only
  unfold doesS
  split
  · rename_i s' q
    exact exec_il F _ _ _ _ _ (il_pc hl _ (by omega)) (okS_set hs _ (h4 _)) hs (by unfold set; rw [if_neg (by omega)]) (decode_good _).toInsOk _ q
  · exact il_ent hl _ _ _ (by omega) (by decide)
  · exact il_ent hl _ _ _ (by omega) (by decide)
theorem il_backR {s : Sta} (h : IL s) (v : Int) : IL (backR s v) := by
  unfold backR
  split
  · rename_i q; exact il_back h q v
  · exact h
theorem il_setV {s : Sta} (h : IL s) (n v : Int) : IL (setV s n v) := by
  unfold setV
  split
  · by_cases q : n = 15
    · rw [if_pos q]
      have r : regO (s 29) n = 28 := by subst q; unfold regO; rw [if_neg (by omega), if_neg (by omega), if_neg (by omega)]
      rw [r]; exact il_pc h _ (and3_mod v)
    · rw [if_neg q]
      refine il_low h _ _ ?_
      have b := bankW_lt (s 29)
      unfold regO
      split
      · omega
      split
      · omega
      split <;> omega
  · exact h
end Go.Proofs.Ytpfhplhamnohjaa
namespace Go.Proofs.Ytpfhplhamnohjaa
open Go.RowKit

/-- an access that was refused -/
def AbE (pe : List PanicEntry) : Prop := ∃ kind va n v p y, pe = abortP kind va n v p y ∧ y.ok = false
theorem storedI_word (w va v : Int) (ha : va % 4 = 0) (hv : 0 ≤ v ∧ v < 4294967296) : storedI w va 4 v = v := by
  unfold storedI pw8 lmask
  rw [ha, if_pos rfl, if_pos rfl]
  have a : bits .andNot .u32 w (4294967295 * 1 % 4294967296) = 0 := by
    rw [show (4294967295 * 1 % 4294967296 : Int) = 4294967295 by decide, nk_iff]
    rw [show ~~~ BitVec.ofInt 32 4294967295 = 0#32 by decide, BitVec.and_zero]
  have b : bits .and .u32 v 4294967295 = v := by
    rw [bv_and, show BitVec.ofInt 32 4294967295 = BitVec.allOnes 32 by decide, BitVec.and_allOnes]
    exact nat_bv v hv
  rw [a, b, Int.mul_one, Int.emod_eq_of_lt hv.1 hv.2, bv_or, show BitVec.ofInt 32 0 = 0#32 by decide, BitVec.zero_or]
  exact nat_bv v hv
theorem loaded_twice (x va : Int) (ha : va % 4 = 0) : loadedI (loadedI x va 4) va 4 = loadedI x va 4 := by
  unfold loadedI pw8 lmask
  rw [ha, if_pos rfl, if_pos rfl, Int.ediv_one, Int.ediv_one]
  rw [bv_and, bv_and, bv_back, BitVec.and_assoc, BitVec.and_self]
/-- where a store of many comes to, and what it has written, all words -/
def wrun (o : Sta) (at_ : Int) (i : Ins) : Nat → Int × List (Int × Int)
  | 0 => (manyAt o at_ i, [])
  | k + 1 => if bt16 i.list k = 0 then wrun o at_ i k else (((wrun o at_ i k).1 + 4) % 4294967296, (wrun o at_ i k).2 ++ [((wrun o at_ i k).1, getI o at_ k)])
theorem wrun_al (o : Sta) (at_ : Int) (i : Ins) (h : manyAt o at_ i % 4 = 0) : ∀ k, (wrun o at_ i k).1 % 4 = 0
  | 0 => h
  | k + 1 => by
    have p := wrun_al o at_ i h k
    unfold wrun
    split
    · exact p
    · dsimp only; omega
theorem wrun_mono (o : Sta) (at_ : Int) (i : Ins) (k : Nat) : ∀ d, ∀ p ∈ (wrun o at_ i k).2, p ∈ (wrun o at_ i (k + d)).2
  | 0, _, h => h
  | d + 1, p, h => by
    have q := wrun_mono o at_ i k d p h
    show p ∈ (wrun o at_ i (k + d + 1)).2
    unfold wrun
    split
    · exact q
    · exact List.mem_append_left _ q
theorem wrun_same {o o' : Sta} (h : NA o o') (at_ : Int) (i : Ins) : ∀ k, wrun o' at_ i k = wrun o at_ i k
  | 0 => by unfold wrun; rw [h.manyAt]
  | k + 1 => by
    unfold wrun
    rw [wrun_same h at_ i k, h.get]
/-- a load or a store of many, by what holds of what it leaves and of how it gives up -/
theorem mrun_ind (m : LineM) (o : Sta) (at_ : Int) (i : Ins) (A : Nat → LineM → Int → Prop) (B : LineM → Prop) (h0 : A 0 m (manyAt o at_ i)) (hz : ∀ k x a, A k x a → bt16 i.list k = 0 → A (k + 1) x a)
    (hok : ∀ k x a, k < 16 → A k x a → bt16 i.list k ≠ 0 → (accLine x (if i.op = 39 then 2 else 3) a 4 (if i.op = 39 then 0 else getI o at_ k) (!userB o)).2.ok = true → A (k + 1) (accLine x (if i.op = 39 then 2 else 3) a 4 (if i.op = 39 then 0 else getI o at_ k) (!userB o)).1 ((a + 4) % 4294967296))
    (her : ∀ k x a, k < 16 → A k x a → bt16 i.list k ≠ 0 → (accLine x (if i.op = 39 then 2 else 3) a 4 (if i.op = 39 then 0 else getI o at_ k) (!userB o)).2.ok = false → B (accLine x (if i.op = 39 then 2 else 3) a 4 (if i.op = 39 then 0 else getI o at_ k) (!userB o)).1) :
    ∀ k, k ≤ 16 → (∀ st, mrun lineF m o at_ i k = .ok st → A k st.1 st.2.1) ∧ ∀ e, mrun lineF m o at_ i k = .error e → B e.1 ∧ AbE e.2
  | 0, _ => by
    refine ⟨fun st h => ?_, fun e h => by unfold mrun at h; cases h⟩
    unfold mrun at h
    rw [← Except.ok.inj h]
    exact h0
  | k + 1, hk => by
    have ih := mrun_ind m o at_ i A B h0 hz hok her k (by omega)
    unfold mrun
    cases q : mrun lineF m o at_ i k with
    | error e1 =>
      refine ⟨fun st h => (by cases h), fun e h => ?_⟩
      rw [← Except.error.inj h]
      exact ih.2 _ q
    | ok s1 =>
      have a := ih.1 _ q
      dsimp only
      unfold mstep
      dsimp only [lineF]
      by_cases z : bt16 i.list k = 0
      · rw [if_pos z]
        refine ⟨fun st h => ?_, fun e h => by cases h⟩
        rw [← Except.ok.inj h]
        exact hz k _ _ a z
      rw [if_neg z]
      have H := hok k _ _ (by omega) a z
      have E := her k _ _ (by omega) a z
      by_cases ok : (accLine s1.1 (if i.op = 39 then 2 else 3) s1.2.1 4 (if i.op = 39 then 0 else getI o at_ k) (!userB o)).2.ok = true
      · rw [if_pos ok]
        refine ⟨fun st h => ?_, fun e h => by cases h⟩
        rw [← Except.ok.inj h]
        exact H ok
      · rw [if_neg ok]
        have ok' := Bool.eq_false_iff.2 ok
        refine ⟨fun st h => (by cases h), fun e h => ?_⟩
        rw [← Except.error.inj h]
        exact ⟨E ok', _, _, _, _, _, _, rfl, ok'⟩
/-- the line behind an access -/
theorem acc_no {m : LineM} {k va n v : Int} {p : Bool} (h : (accLine m k va n v p).2.ok = false) : (accLine m k va n v p).1.puts = m.puts ∧ (accLine m k va n v p).1.cop = m.cop := by
  unfold accLine at h ⊢
  dsimp only at h ⊢
  split
  · exact ⟨rfl, rfl⟩
  · rename_i q
    rw [if_neg q] at h
    split at h <;> cases h
theorem acc_ld {m : LineM} {k va n v : Int} {p : Bool} (h : k ≠ 3) : (accLine m k va n v p).1.puts = m.puts ∧ (accLine m k va n v p).1.cop = m.cop := by
  unfold accLine
  dsimp only
  by_cases q : (faultI m.holes k va n).2.ok = false
  · rw [if_pos q]; exact ⟨rfl, rfl⟩
  · rw [if_neg q, if_neg h]; exact ⟨rfl, rfl⟩
theorem acc_st {m : LineM} {va v : Int} {p : Bool} (h : (accLine m 3 va 4 v p).2.ok = true) (hv : 0 ≤ v ∧ v < 4294967296) (ha : va % 4 = 0) : (accLine m 3 va 4 v p).1.puts = m.puts ++ [(va, v)] ∧ (accLine m 3 va 4 v p).1.cop = m.cop := by
  unfold accLine at h ⊢
  dsimp only at h ⊢
  split
  · rename_i q
    rw [if_pos q, q] at h
    cases h
  · rw [if_pos rfl, storedI_word _ _ _ ha hv, ha, Int.sub_zero]
    exact ⟨rfl, rfl⟩
theorem acc_odd {m : LineM} {k va v : Int} {p : Bool} (ha : va % 4 ≠ 0) : (accLine m k va 4 v p).2.ok = false := by
  have o : oddB va 4 = true := by
    unfold oddB
    simp [ha]
  unfold accLine faultI
  rw [o]
  rfl
theorem acc_free {m : LineM} {k va v : Int} {p : Bool} (hh : m.holes = []) (ha : va % 4 = 0) : (accLine m k va 4 v p).2.ok = true ∧ (accLine m k va 4 v p).1.holes = [] := by
  have o : oddB va 4 = false := by
    unfold oddB
    simp [ha]
  have f : faultI m.holes k va 4 = ([], ⟨0, 0, 0, 0⟩) := by unfold faultI; rw [o, hh]; rfl
  unfold accLine
  dsimp only
  rw [f, if_neg (show ¬ (Ans.ok ⟨0, 0, 0, 0⟩ = false) by decide)]
  split
  · exact ⟨rfl, rfl⟩
  · exact ⟨rfl, rfl⟩
/-- what an instruction that gave up has left of the line -/
def LeftI (m m1 : LineM) (o : Sta) (at_ : Int) (i : Ins) : Prop := m1.cop = m.cop ∧ (m1.puts = m.puts ∨ (i.op = 40 ∧ manyAt o at_ i % 4 = 0 ∧ ∃ j, j ≤ 16 ∧ m1.puts = m.puts ++ (wrun o at_ i j).2))
theorem mrun_left (m : LineM) (o : Sta) (ho : OkS o) (at_ : Int) (i : Ins) (hop : i.op = 39 ∨ i.op = 40) : ∀ k, k ≤ 16 → ∀ e, mrun lineF m o at_ i k = .error e → LeftI m e.1 o at_ i ∧ AbE e.2 := by
  intro k hk e h
  by_cases h39 : i.op = 39
  · have I := mrun_ind m o at_ i (fun _ x _ => x.puts = m.puts ∧ x.cop = m.cop) (fun x => x.puts = m.puts ∧ x.cop = m.cop) ⟨rfl, rfl⟩ (fun k x a h _ => h)
      (fun k x a _ h _ _ => by rw [if_pos h39]; have q := @acc_ld x 2 a 4 (if i.op = 39 then 0 else getI o at_ k) (!userB o) (by decide); exact ⟨q.1.trans h.1, q.2.trans h.2⟩)
      (fun k x a _ h _ hn => by have q := acc_no hn; exact ⟨q.1.trans h.1, q.2.trans h.2⟩) k hk
    have r := I.2 e h
    exact ⟨⟨r.1.2, .inl r.1.1⟩, r.2⟩
  have h40 : i.op = 40 := by omega
  by_cases hal : manyAt o at_ i % 4 = 0
  · have I := mrun_ind m o at_ i (fun j x a => a = (wrun o at_ i j).1 ∧ x.puts = m.puts ++ (wrun o at_ i j).2 ∧ x.cop = m.cop) (fun x => (∃ j, j ≤ 16 ∧ x.puts = m.puts ++ (wrun o at_ i j).2) ∧ x.cop = m.cop) ⟨rfl, by simp [wrun], rfl⟩
      (fun k x a h z => by unfold wrun; rw [if_pos z]; exact h)
      (fun k x a _ h z hy => by
        rw [if_neg h39, if_neg h39] at hy ⊢
        have al := wrun_al o at_ i hal k
        rw [← h.1] at al
        have q := acc_st hy (getI_u o at_ _ ho (by omega)) al
        unfold wrun
        rw [if_neg z]
        refine ⟨by rw [h.1], ?_, q.2.trans h.2.2⟩
        rw [q.1, h.2.1, h.1, List.append_assoc])
      (fun k x a _ h _ hn => by have q := acc_no hn; exact ⟨⟨k, by omega, q.1.trans h.2.1⟩, q.2.trans h.2.2⟩) k hk
    have r := I.2 e h
    exact ⟨⟨r.1.2, .inr ⟨h40, hal, r.1.1⟩⟩, r.2⟩
  · have I := mrun_ind m o at_ i (fun _ x a => a = manyAt o at_ i ∧ x.puts = m.puts ∧ x.cop = m.cop) (fun x => x.puts = m.puts ∧ x.cop = m.cop) ⟨rfl, rfl, rfl⟩ (fun k x a h _ => h)
      (fun k x a _ h _ hy => by rw [h.1, acc_odd hal] at hy; cases hy)
      (fun k x a _ h _ hn => by have q := acc_no hn; exact ⟨q.1.trans h.2.1, q.2.trans h.2.2⟩) k hk
    have r := I.2 e h
    exact ⟨⟨r.1.2, .inl r.1.1⟩, r.2⟩
theorem exec_left (m : LineM) (o s : Sta) (ho : OkS o) (at_ : Int) (i : Ins) (pe : List PanicEntry) (h : (execO lineF m o s at_ i).2 = .ab pe) : LeftI m (execO lineF m o s at_ i).1 o at_ i ∧ AbE pe := by
  have oo : ∀ r : Option Sta, outOf r ≠ .ab pe := fun r => by cases r <;> simp [outOf]
  unfold execO at h ⊢
  by_cases h16 : i.op ≤ 16
  · rw [if_pos h16] at h; exact absurd h (oo _)
  rw [if_neg h16] at h ⊢
  by_cases h18 : i.op ≤ 18
  · rw [if_pos h18] at h; cases h
  rw [if_neg h18] at h ⊢
  by_cases h24 : i.op ≤ 24
  · rw [if_pos h24] at h; cases h
  rw [if_neg h24] at h ⊢
  by_cases h30 : i.op ≤ 30
  · rw [if_pos h30] at h; cases h
  rw [if_neg h30] at h ⊢
  by_cases h38 : i.op ≤ 38
  · rw [if_pos h38] at h ⊢
    dsimp only at h ⊢
    by_cases q : (oneR lineF m o at_ i).2.ok = true
    · rw [if_pos q] at h; cases h
    · rw [if_neg q] at h
      have q' := Bool.eq_false_iff.2 q
      have L := acc_no q'
      exact ⟨⟨L.2, .inl L.1⟩, _, _, _, _, _, _, (Out.ab.inj h).symm, q'⟩
  rw [if_neg h38] at h ⊢
  by_cases h40 : i.op ≤ 40
  · rw [if_pos h40] at h ⊢
    unfold manyO at h ⊢
    cases q : mrun lineF m o at_ i 16 with
    | error e =>
      rw [q] at h
      have L := mrun_left m o ho at_ i (by omega) 16 (by omega) e q
      dsimp only at h ⊢
      rw [← Out.ab.inj h]
      exact L
    | ok st => rw [q] at h; cases h
  rw [if_neg h40] at h ⊢
  by_cases h44 : i.op ≤ 44
  · rw [if_pos h44] at h; cases h
  rw [if_neg h44] at h ⊢
  by_cases h46 : i.op ≤ 46
  · rw [if_pos h46] at h; cases h
  rw [if_neg h46] at h ⊢
  by_cases h48 : i.op ≤ 48
  · rw [if_pos h48] at h; exact absurd h (oo _)
  rw [if_neg h48] at h ⊢
  by_cases h49 : i.op = 49
  · rw [if_pos h49] at h
    dsimp only at h
    split at h <;> cases h
  rw [if_neg h49] at h ⊢
  by_cases h50 : i.op = 50
  · rw [if_pos h50] at h
    dsimp only at h
    split at h <;> cases h
  rw [if_neg h50] at h
  cases h
/-- a step that ended in a data abort -/
structure DataA (m : LineM) (s : Sta) (i : Ins) (pe : List PanicEntry) : Prop where
  got : (accLine m 1 (s 28) 4 0 (!userB s)).2.ok = true
  dec : decodeI (accLine m 1 (s 28) 4 0 (!userB s)).2.val = (i, true)
  pass : passedB i.cond (flagsI (s 29)) = true
  n45 : i.op ≠ 45
  n46 : i.op ≠ 46
  n52 : i.op ≠ 52
  ab : (execO lineF (accLine m 1 (s 28) 4 0 (!userB s)).1 s (set s 28 ((s 28 + 4) % 4294967296)) (s 28) i).2 = .ab pe
  eq : stepO lineF m s false = ((execO lineF (accLine m 1 (s 28) 4 0 (!userB s)).1 s (set s 28 ((s 28 + 4) % 4294967296)) (s 28) i).1, entS s 23 ((s 28 + 8) % 4294967296) 16, doesT ⟨0, s 28, (accLine m 1 (s 28) 4 0 (!userB s)).2.val, 0, 0, 0, 0, false⟩ (.ab pe))
theorem step_go (m : LineM) (s : Sta) : stepO lineF m s false = if (accLine m 1 (s 28) 4 0 (!userB s)).2.ok = false then ((accLine m 1 (s 28) 4 0 (!userB s)).1, entS s 23 ((s 28 + 4) % 4294967296) 12, ⟨3, s 28, 0, s 28, (accLine m 1 (s 28) 4 0 (!userB s)).2.fk, (accLine m 1 (s 28) 4 0 (!userB s)).2.fl, (accLine m 1 (s 28) 4 0 (!userB s)).2.fd, false⟩) else tookO lineF (accLine m 1 (s 28) 4 0 (!userB s)).1 s false (decodeI (accLine m 1 (s 28) 4 0 (!userB s)).2.val).1 (decodeI (accLine m 1 (s 28) 4 0 (!userB s)).2.val).2 ⟨0, s 28, (accLine m 1 (s 28) 4 0 (!userB s)).2.val, 0, 0, 0, 0, false⟩ := by
  unfold stepO
  rw [if_neg (show ¬ (false = true ∧ bits .and .u32 (s 29) 128 = 0) by simp)]
  rfl
theorem first4 (m : LineM) (s : Sta) (h : (stepO lineF m s false).2.2.kind = 4) : ∃ i pe, DataA m s i pe := by
  have G := step_go m s
  generalize hr : stepO lineF m s false = r at h G
  subst G
  by_cases q : (accLine m 1 (s 28) 4 0 (!userB s)).2.ok = false
  · rw [if_pos q] at h; exact absurd h (by simp)
  rw [if_neg q] at h hr
  generalize hd : decodeI (accLine m 1 (s 28) 4 0 (!userB s)).2.val = d at h hr
  obtain ⟨i, ok⟩ := d
  dsimp only at h hr
  unfold tookO at h hr
  by_cases c1 : ok = false
  · rw [if_pos c1] at h; exact absurd h (by simp)
  rw [if_neg c1] at h hr
  by_cases c2 : passedB i.cond (flagsI (s 29)) = false
  · rw [if_pos c2] at h; exact absurd h (by simp)
  rw [if_neg c2] at h hr
  by_cases c3 : i.op = 45
  · rw [if_pos c3] at h; exact absurd h (by simp)
  rw [if_neg c3] at h hr
  by_cases c4 : i.op = 46
  · rw [if_pos c4] at h; exact absurd h (by simp)
  rw [if_neg c4] at h hr
  by_cases c5 : i.op = 52 ∧ false = false
  · rw [if_pos c5] at h; exact absurd h (by simp)
  rw [if_neg c5] at h hr
  dsimp only at h hr
  cases hx : (execO lineF (accLine m 1 (s 28) 4 0 (!userB s)).1 s (set s 28 ((s 28 + 4) % 4294967296)) (s 28) i).2 with
  | ok s' => rw [hx] at h; exact absurd h (by simp [doesT])
  | un => rw [hx] at h; exact absurd h (by simp [doesT])
  | ab pe =>
    rw [hx] at hr
    have e : ok = true := by simpa using c1
    subst e
    exact ⟨i, pe, by simpa using q, hd, by simpa using c2, c3, c4, fun x => c5 ⟨x, rfl⟩, hx, hr⟩
theorem first3 (m : LineM) (s : Sta) (h : (stepO lineF m s false).2.2.kind = 3) (hf : ¬ ((stepO lineF m s false).2.2.fk = 0 ∧ (stepO lineF m s false).2.2.fl = 0 ∧ (stepO lineF m s false).2.2.fd = 0)) :
    (accLine m 1 (s 28) 4 0 (!userB s)).2.ok = false := by
  have G := step_go m s
  by_cases q : (accLine m 1 (s 28) 4 0 (!userB s)).2.ok = false
  · exact q
  rw [if_neg q] at G
  rw [G] at h hf
  exfalso
  generalize decodeI (accLine m 1 (s 28) 4 0 (!userB s)).2.val = d at h hf
  unfold tookO at h hf
  by_cases c1 : d.2 = false
  · rw [if_pos c1] at h; exact absurd h (by simp)
  rw [if_neg c1] at h hf
  by_cases c2 : passedB d.1.cond (flagsI (s 29)) = false
  · rw [if_pos c2] at h; exact absurd h (by simp)
  rw [if_neg c2] at h hf
  by_cases c3 : d.1.op = 45
  · rw [if_pos c3] at h; exact absurd h (by simp)
  rw [if_neg c3] at h hf
  by_cases c4 : d.1.op = 46
  · rw [if_pos c4] at hf; exact hf ⟨rfl, rfl, rfl⟩
  rw [if_neg c4] at h hf
  by_cases c5 : d.1.op = 52 ∧ false = false
  · rw [if_pos c5] at h; exact absurd h (by simp)
  rw [if_neg c5] at h hf
  dsimp only at h hf
  cases hx : (execO lineF (accLine m 1 (s 28) 4 0 (!userB s)).1 s (set s 28 ((s 28 + 4) % 4294967296)) (s 28) d.1).2 with
  | ok s' => rw [hx] at h; exact absurd h (by simp [doesT])
  | un => rw [hx] at h; exact absurd h (by simp [doesT])
  | ab pe => rw [hx] at h; exact absurd h (by simp [doesT])
end Go.Proofs.Ytpfhplhamnohjaa
namespace Go.Proofs.Ytpfhplhamnohjaa
open Go.RowKit

theorem and3_same (v : Int) (h0 : 0 ≤ v ∧ v < 4294967296) (h4 : v % 4 = 0) : and3 v = v := by
  have k := nat_bv v h0
  have e : (BitVec.ofInt 32 v) &&& 3#32 = 0#32 := by
    apply BitVec.eq_of_toNat_eq
    rw [BitVec.toNat_and, show (3#32).toNat = 2 ^ 2 - 1 by decide, Nat.and_two_pow_sub_one_eq_mod]
    simp only [BitVec.toNat_ofNat]
    omega
  unfold and3
  rw [bv_not, show BitVec.ofInt 32 3 = 3#32 by decide]
  have q : (BitVec.ofInt 32 v) &&& ~~~ 3#32 = BitVec.ofInt 32 v := by
    have a : (BitVec.ofInt 32 v &&& ~~~ 3#32) ||| (BitVec.ofInt 32 v &&& 3#32) = BitVec.ofInt 32 v := by
      rw [← BitVec.and_or_distrib_left, show (~~~ 3#32 ||| 3#32) = BitVec.allOnes 32 by decide, BitVec.and_allOnes]
    rw [e, BitVec.or_zero] at a
    exact a
  rw [q, k]
theorem abt_mode (x : Int) : bits .or .u32 (bits .or .u32 (bits .andNot .u32 x 31) 23) 128 % 32 = 23 := by
  rw [bv_or, bv_or, bv_not, bv_back, bv_back]
  have e : ((((BitVec.ofInt 32 x &&& ~~~ 31#32) ||| 23#32) ||| 128#32).setWidth 5) = 23#5 := by
    rw [BitVec.setWidth_or, BitVec.setWidth_or, BitVec.setWidth_and, show (~~~ 31#32).setWidth 5 = 0#5 by decide, show (128#32).setWidth 5 = 0#5 by decide, show (23#32).setWidth 5 = 23#5 by decide, BitVec.and_zero, BitVec.zero_or, BitVec.or_zero]
  have n := congrArg BitVec.toNat e
  rw [BitVec.toNat_setWidth, show (23#5).toNat = 23 by decide] at n
  rw [show BitVec.ofInt 32 31 = 31#32 from rfl, show BitVec.ofInt 32 128 = 128#32 from rfl, show BitVec.ofInt 32 23 = 23#32 from rfl]
  omega
/-- the way back from an abort -/
theorem ret_ab (s : Sta) (hs : OkS s) (hl : IL s) (b back v : Int) (hb : (b - back) % 4294967296 = s 28) : ∃ s2, retV (entS s 23 b v) back = (s2, 0) ∧ EQ2 s s2 := by
  have E : ∀ j, entS s 23 b v j = if j = 28 then v else if j = 29 then bits .or .u32 (bits .or .u32 (bits .andNot .u32 (s 29) 31) 23) 128 else if j = 20 then b else if j = 25 then s 29 else s j := fun j => by
    unfold entS set
    rfl
  have X := abt_mode (s 29)
  have e29 : entS s 23 b v 29 = bits .or .u32 (bits .or .u32 (bits .andNot .u32 (s 29) 31) 23) 128 := E 29
  have e25 : entS s 23 b v 25 = s 29 := E 25
  have e20 : entS s 23 b v 20 = b := E 20
  generalize bits .or .u32 (bits .or .u32 (bits .andNot .u32 (s 29) 31) 23) 128 = x at E X e29
  have w : bankW x = 2 := by unfold bankW; rw [X]; rfl
  have bb : backB (entS s 23 b v) = true := by
    unfold backB
    rw [e29, w, show 23 + (2 : Int).toNat = 25 by decide, e25, hl.mode]
    rfl
  have rg : regV (entS s 23 b v) 14 = b := by
    unfold regV
    rw [if_pos (by omega), e29, show regO x 14 = 20 by unfold regO; rw [w]; rfl, e20]
  refine ⟨backT (entS s 23 b v) (s 28), ?_, ?_⟩
  · unfold retV
    rw [if_pos bb, rg, hb]
  · intro j h1 h2
    unfold backT set
    rw [e29, w, show 23 + (2 : Int).toNat = 25 by decide, e25, and3_same _ (hs 28 (by omega)) hl.pc]
    split
    · rename_i q; rw [q]
    split
    · rename_i q; rw [q]
    · rename_i a c
      rw [E, if_neg a, if_neg c, if_neg h1, if_neg h2]
theorem na_of {s s2 : Sta} (h : EQ2 s s2) (hm : s 29 % 32 ≠ 23) : NA s s2 := ⟨h, by
  unfold bankW bankB
  generalize s 29 % 32 = c at hm ⊢
  by_cases a : c = 16 ∨ c = 31
  · rw [if_pos a]; decide
  rw [if_neg a]
  by_cases b : c = 19
  · rw [if_pos b]; decide
  rw [if_neg b, if_neg hm]
  by_cases d : c = 27
  · rw [if_pos d]; decide
  rw [if_neg d]
  by_cases e : c = 18
  · rw [if_pos e]; decide
  · rw [if_neg e]; decide⟩
theorem word_hit (a : Int) : ∀ (W : List (Int × Int)) (x y : Int), (∃ p ∈ W, hitB p a = true) → W.foldl (fun r p => if hitB p a then p.2 else r) x = W.foldl (fun r p => if hitB p a then p.2 else r) y
  | [], _, _, h => by obtain ⟨p, hp, _⟩ := h; cases hp
  | q :: W, x, y, h => by
    rw [List.foldl_cons, List.foldl_cons]
    by_cases z : hitB q a = true
    · rw [if_pos z, if_pos z]
    · rw [if_neg z, if_neg z]
      refine word_hit a W x y ?_
      obtain ⟨p, hp, hh⟩ := h
      rcases List.mem_cons.1 hp with rfl | hp
      · exact absurd hh z
      · exact ⟨p, hp, hh⟩
theorem word_miss (a : Int) : ∀ (W : List (Int × Int)) (x : Int), (∀ p ∈ W, hitB p a ≠ true) → W.foldl (fun r p => if hitB p a then p.2 else r) x = x
  | [], _, _ => rfl
  | q :: W, x, h => by
    rw [List.foldl_cons, if_neg (h q (by simp))]
    exact word_miss a W x (fun p hp => h p (List.mem_cons_of_mem _ hp))
/-- what is written again is what was written once -/
theorem word_over (A P W : List (Int × Int)) (h : ∀ p ∈ P, p ∈ W) (a : Int) : wordI ((A ++ P) ++ W) a = wordI (A ++ W) a := by
  unfold wordI
  rw [List.foldl_append, List.foldl_append, List.foldl_append]
  by_cases z : ∃ p ∈ W, hitB p a = true
  · exact word_hit a W _ _ z
  · have z2 : ∀ p ∈ W, hitB p a ≠ true := fun p hp hh => z ⟨p, hp, hh⟩
    rw [word_miss a W _ z2, word_miss a W _ z2, word_miss a P _ (fun p hp => z2 p (h p hp))]
theorem mputs_st (s : Sta) (i : Ins) (vs : Nat → Int) (h : i.op = 40) : ∀ n, mputs s i vs n = s
  | 0 => rfl
  | n + 1 => by
    unfold mputs
    rw [if_neg (by rw [h]; simp), mputs_st s i vs h n]
theorem acc_val {m : LineM} {va v : Int} {p : Bool} (h : (accLine m 1 va 4 v p).2.ok = true) : (accLine m 1 va 4 v p).2.val = loadedI (wordI m.puts (va - va % 4)) va 4 := by
  unfold accLine at h ⊢
  dsimp only at h ⊢
  by_cases q : (faultI m.holes 1 va 4).2.ok = false
  · rw [if_pos q, q] at h; cases h
  · rw [if_neg q, if_neg (by decide)]
/-- a store of many that nothing stops -/
theorem st_full (m : LineM) (hh : m.holes = []) (o s : Sta) (ho : OkS o) (at_ : Int) (i : Ins) (h40 : i.op = 40) (hal : manyAt o at_ i % 4 = 0) :
    (execO lineF m o s at_ i).2 = .ok (manyW o s at_ i) ∧ (execO lineF m o s at_ i).1.puts = m.puts ++ (wrun o at_ i 16).2 := by
  have h39 : i.op ≠ 39 := by omega
  have I := mrun_ind m o at_ i (fun j x a => x.holes = [] ∧ a = (wrun o at_ i j).1 ∧ x.puts = m.puts ++ (wrun o at_ i j).2) (fun _ => False) ⟨hh, rfl, by simp [wrun]⟩
    (fun k x a h z => by unfold wrun; rw [if_pos z]; exact h)
    (fun k x a _ h z hy => by
      rw [if_neg h39, if_neg h39] at hy ⊢
      have al := wrun_al o at_ i hal k
      rw [← h.2.1] at al
      have q := acc_st hy (getI_u o at_ _ ho (by omega)) al
      unfold wrun
      rw [if_neg z]
      refine ⟨(acc_free h.1 al).2, by rw [h.2.1], ?_⟩
      rw [q.1, h.2.2, h.2.1, List.append_assoc])
    (fun k x a _ h _ hn => by
      have al := wrun_al o at_ i hal k
      rw [← h.2.1] at al
      rw [(acc_free h.1 al).1] at hn
      cases hn) 16 (by omega)
  have e : execO lineF m o s at_ i = manyO lineF m o s at_ i := by
    unfold execO
    rw [if_neg (by omega), if_neg (by omega), if_neg (by omega), if_neg (by omega), if_neg (by omega), if_pos (by omega)]
  rw [e]
  unfold manyO
  cases q : mrun lineF m o at_ i 16 with
  | error x => exact (I.2 x q).1.elim
  | ok st =>
    have z := I.1 st q
    dsimp only
    rw [mputs_st _ _ _ h40]
    exact ⟨rfl, z.2.2⟩
/-- the same instruction, over two lines that hand out its word -/
theorem redo_st {m m' : LineM} (hh : m.holes = []) (hh' : m'.holes = []) {s s' : Sta} (k : NA s s') (hs : OkS s) (hs' : OkS s') (hl : s 28 % 4 = 0) (i : Ins)
    (dec : decodeI (accLine m 1 (s 28) 4 0 (!userB s)).2.val = (i, true)) (pass : passedB i.cond (flagsI (s 29)) = true) (h40 : i.op = 40) (hal : manyAt s (s 28) i % 4 = 0)
    (hw : (accLine m' 1 (s 28) 4 0 (!userB s)).2.val = (accLine m 1 (s 28) 4 0 (!userB s)).2.val) :
    (stepO lineF m' s' false).2.2 = (stepO lineF m s false).2.2 ∧ EQ2 (stepO lineF m s false).2.1 (stepO lineF m' s' false).2.1 ∧ (stepO lineF m s false).1.puts = m.puts ++ (wrun s (s 28) i 16).2 ∧ (stepO lineF m' s' false).1.puts = m'.puts ++ (wrun s (s 28) i 16).2 := by
  have e28 : s' 28 = s 28 := (k.e 28 (by omega) (by omega)).symm
  have A := @acc_free m 1 (s 28) 0 (!userB s) hh hl
  have A' := @acc_free m' 1 (s 28) 0 (!userB s) hh' hl
  have P := @acc_ld m 1 (s 28) 4 0 (!userB s) (by decide)
  have P' := @acc_ld m' 1 (s 28) 4 0 (!userB s) (by decide)
  rw [step_go, step_go, e28, k.user]
  rw [A.1, A'.1, if_neg (by decide), if_neg (by decide), hw, dec]
  generalize (accLine m 1 (s 28) 4 0 (!userB s)).2.val = w
  generalize accLine m 1 (s 28) 4 0 (!userB s) = a at A P
  generalize accLine m' 1 (s 28) 4 0 (!userB s) = a' at A' P'
  dsimp only
  unfold tookO
  rw [e28, k.h29, pass]
  simp only [Bool.true_eq_false, if_false, h40, show ¬ (40 : Int) = 45 by decide, show ¬ (40 : Int) = 46 by decide, show ¬ (40 : Int) = 52 by decide, false_and]
  have e29 : set s 28 ((s 28 + 4) % 4294967296) 29 = s 29 := by unfold set; rw [if_neg (by omega)]
  have F := st_full a.1 A.2 s (set s 28 ((s 28 + 4) % 4294967296)) hs (s 28) i h40 hal
  have F' := st_full a'.1 A'.2 s' (set s' 28 ((s 28 + 4) % 4294967296)) hs' (s 28) i h40 (by rw [k.manyAt]; exact hal)
  rw [F.1, F'.1]
  refine ⟨rfl, ?_, by rw [F.2, P.1], by rw [F'.2, P'.1, wrun_same k]⟩
  exact many_e k (s := set s 28 ((s 28 + 4) % 4294967296)) (s' := set s' 28 ((s 28 + 4) % 4294967296)) ⟨k.e.set _ _, by rw [e29]; exact k.m⟩ (s 28) i (fun _ => 0) 0
/-- what the law says of a step that faulted -/
structure AgainP (puts : List (Int × Int)) (R2 : Nat) (s : Sta) (r : LineM × Sta × Tk) : Prop where
  at_ : r.2.2.at_ = s 28
  fault : ¬ (r.2.2.fk = 0 ∧ r.2.2.fl = 0 ∧ r.2.2.fd = 0)
  back : (retV r.2.1 (if r.2.2.kind = 3 then 4 else 8)).2 = 0
  same : EQ2 s (retV r.2.1 (if r.2.2.kind = 3 then 4 else 8)).1
  redo : (r.2.2.kind = 4 → wordI r.1.puts (s 28) = r.2.2.word) →
    (stepO lineF { r.1 with holes := [] } (retV r.2.1 (if r.2.2.kind = 3 then 4 else 8)).1 false).2.2 = (stepO lineF ⟨puts, [], [], 0, R2⟩ s false).2.2 ∧
    EQ2 (stepO lineF ⟨puts, [], [], 0, R2⟩ s false).2.1 (stepO lineF { r.1 with holes := [] } (retV r.2.1 (if r.2.2.kind = 3 then 4 else 8)).1 false).2.1 ∧
    ∀ a, wordI (stepO lineF { r.1 with holes := [] } (retV r.2.1 (if r.2.2.kind = 3 then 4 else 8)).1 false).1.puts a = wordI (stepO lineF ⟨puts, [], [], 0, R2⟩ s false).1.puts a
theorem redo_same {puts : List (Int × Int)} {R2 : Nat} {s s2 : Sta} (k : NA s s2) {mx : LineM} (hp : mx.puts = puts) (hc : mx.cop = 0) :
    (stepO lineF { mx with holes := [] } s2 false).2.2 = (stepO lineF ⟨puts, [], [], 0, R2⟩ s false).2.2 ∧ EQ2 (stepO lineF ⟨puts, [], [], 0, R2⟩ s false).2.1 (stepO lineF { mx with holes := [] } s2 false).2.1 ∧ ∀ a, wordI (stepO lineF { mx with holes := [] } s2 false).1.puts a = wordI (stepO lineF ⟨puts, [], [], 0, R2⟩ s false).1.puts a := by
  have S := step_e k (m := ⟨puts, [], [], 0, R2⟩) (m' := { mx with holes := [] }) ⟨hp, rfl, hc⟩
  exact ⟨S.2.2, S.2.1, fun a => by rw [S.1.p]⟩
theorem again_law (puts : List (Int × Int)) (holes : List Hol) (R R2 : Nat) (s : Sta) (hs : OkS s) (hl : IL s) (hm : s 29 % 32 ≠ 23)
    (hk : (stepO lineF ⟨puts, holes, [], 0, R⟩ s false).2.2.kind = 4 ∨ ((stepO lineF ⟨puts, holes, [], 0, R⟩ s false).2.2.kind = 3 ∧ ¬ ((stepO lineF ⟨puts, holes, [], 0, R⟩ s false).2.2.fk = 0 ∧ (stepO lineF ⟨puts, holes, [], 0, R⟩ s false).2.2.fl = 0 ∧ (stepO lineF ⟨puts, holes, [], 0, R⟩ s false).2.2.fd = 0))) :
    AgainP puts R2 s (stepO lineF ⟨puts, holes, [], 0, R⟩ s false) := by
  have A := @acc_ld ⟨puts, holes, [], 0, R⟩ 1 (s 28) 4 0 (!userB s) (by decide)
  rcases hk with h4 | ⟨h3, hf⟩
  · obtain ⟨i, pe, D⟩ := first4 _ s h4
    rw [D.eq]
    obtain ⟨L, kind, va, n, v, p, y, rfl, hy⟩ := exec_left _ _ _ hs _ _ _ D.ab
    generalize (execO lineF (accLine ⟨puts, holes, [], 0, R⟩ 1 (s 28) 4 0 (!userB s)).1 s (set s 28 ((s 28 + 4) % 4294967296)) (s 28) i).1 = mx at L ⊢
    obtain ⟨s2, hr, he⟩ := ret_ab s hs hl ((s 28 + 8) % 4294967296) 8 16 (by have := hs 28 (by omega); omega)
    have K := na_of he hm
    have e8 : (if (doesT ⟨0, s 28, (accLine ⟨puts, holes, [], 0, R⟩ 1 (s 28) 4 0 (!userB s)).2.val, 0, 0, 0, 0, false⟩ (.ab (abortP kind va n v p y))).kind = 3 then (4 : Int) else 8) = 8 := if_neg (by simp [doesT])
    refine ⟨rfl, ?_, ?_, ?_, ?_⟩
    · show ¬ (y.fk = 0 ∧ y.fl = 0 ∧ y.fd = 0)
      rintro ⟨a, b, c⟩
      unfold Ans.ok at hy
      rw [a, b, c] at hy
      cases hy
    · dsimp only
      rw [e8, hr]
    · dsimp only
      rw [e8, hr]; exact he
    · dsimp only
      rw [e8, hr]
      intro hw
      have hw := hw rfl
      rcases L.2 with q | ⟨h40, hal, j, hj, q⟩
      · exact redo_same K (q.trans A.1) (L.1.trans A.2)
      · have V := acc_val D.got
        have V2 := acc_val (@acc_free ⟨puts, [], [], 0, R2⟩ 1 (s 28) 0 (!userB s) rfl hl.pc).1
        have V3 := acc_val (@acc_free { mx with holes := [] } 1 (s 28) 0 (!userB s) rfl hl.pc).1
        have e4 : s 28 - s 28 % 4 = s 28 := by rw [hl.pc]; omega
        rw [e4] at V V2 V3
        have X := redo_st (m := ⟨puts, [], [], 0, R2⟩) (m' := { mx with holes := [] }) rfl rfl K hs (by have := okS_ret (okS_ent hs 23 (b := (s 28 + 8) % 4294967296) (v := 16) (by omega) (by omega)) 8; rw [hr] at this; exact this) hl.pc i (by rw [V2]; have d := D.dec; rw [V] at d; exact d) D.pass h40 hal
          (by
            rw [V2, V3]
            have z : wordI mx.puts (s 28) = loadedI (wordI puts (s 28)) (s 28) 4 := hw.trans V
            show loadedI (wordI mx.puts (s 28)) (s 28) 4 = _
            rw [z]
            exact loaded_twice _ _ hl.pc)
        refine ⟨X.1, X.2.1, fun a => ?_⟩
        rw [X.2.2.1, X.2.2.2]
        show wordI (mx.puts ++ _) a = _
        rw [q, A.1]
        exact word_over _ _ _ (fun p hp => by have := wrun_mono s (s 28) i j (16 - j) p hp; rwa [show j + (16 - j) = 16 by omega] at this) a
  · have N := first3 _ s h3 hf
    have G := step_go ⟨puts, holes, [], 0, R⟩ s
    rw [if_pos N] at G
    rw [G] at hf ⊢
    obtain ⟨s2, hr, he⟩ := ret_ab s hs hl ((s 28 + 4) % 4294967296) 4 12 (by have := hs 28 (by omega); omega)
    have K := na_of he hm
    refine ⟨rfl, hf, ?_, ?_, ?_⟩
    · dsimp only
      rw [if_pos rfl, hr]
    · dsimp only
      rw [if_pos rfl, hr]; exact he
    · dsimp only
      rw [if_pos rfl, hr]
      intro _
      exact redo_same K A.1 A.2
end Go.Proofs.Ytpfhplhamnohjaa
