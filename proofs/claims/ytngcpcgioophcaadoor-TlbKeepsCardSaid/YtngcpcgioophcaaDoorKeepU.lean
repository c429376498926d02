/- What holds in the inner loop of TlbKeeps; the code of its parts. -/
import Derived.Test.YtngcpcgioophcaaDoorKeepW
import Derived.Test.YtngcpcgioophcaaDoorOrdV0
import Derived.StillTailTactics
namespace Go.Proofs.YtngcpcgioophcaaDoor
open Go.RowKit

structure KInv (w0 : World) (g tb wb nb ob : Nat) (o : Op10) (xs ys : List Slot) (wq : World) : Prop where
  was : Blok wq wb 50 (rowCells xs)
  now : Blok wq nb 50 (rowCells ys)
  op : Blok wq ob 44 (opCells o)
  t : IsTlb wq 105 50 tb g ys
  shf : Shf wq
  bel : Below w0.heap.size w0 wq
theorem KInv.below {w0 wq w' : World} {g tb wb nb ob : Nat} {o : Op10} {xs ys : List Slot} (h : KInv w0 g tb wb nb ob o xs ys wq) (b : Below wq.heap.size wq w') : KInv w0 g tb wb nb ob o xs ys w' :=
  ⟨h.was.below b h.was.lt, h.now.below b h.now.lt, h.op.below b h.op.lt, h.t.below b, h.shf.below h.shf.pos b, bthen h.bel b⟩
theorem KInv.drew {w0 wq : World} {g tb wb nb ob : Nat} {o : Op10} {xs ys : List Slot} (h : KInv w0 g tb wb nb ob o xs ys wq) (n : Nat) : KInv w0 g tb wb nb ob o xs ys (wq.drewN n) := h.below (bdrewN (Below.refl _ _) n)
/-- what is known of a call and of the places before and behind it -/
structure KLaw (o : Op10) (xs ys : List Slot) (n : Nat) : Prop where
  lx : xs.length = n
  ly : ys.length = n
  ok : RowOk xs
  oky : RowOk ys
  nod : NoDbl ys
  right : AllRight ys
  e : ys = opRow o xs
  pos : 0 < n
theorem KLaw.put {o : Op10} {xs ys : List Slot} {n k : Nat} {s t : Slot} (h : KLaw o xs ys n) (ht : opTook o = true) (h1 : xs[k]? = some s) (h2 : ys[k]? = some t) (hn : sameS s t = false) : (k : Int) = opAt o xs ∧ t = ⟨true, o.blk⟩ ∧ inN o.blk xs = 0 := by
  unfold opTook at ht
  rw [Bool.and_eq_true, decide_eq_true_eq] at ht
  have e := h.e
  unfold opRow at e
  rw [if_neg (by omega), if_pos ht.1, if_pos ht.2] at e
  subst e
  unfold opAt
  rw [if_pos ht.1, if_pos ht.2]
  obtain ⟨a, b, c⟩ := put_turn h1 h2 hn
  exact ⟨by rw [a], b, c⟩
theorem KLaw.evict {o : Op10} {xs ys : List Slot} {n k : Nat} {s t : Slot} (h : KLaw o xs ys n) (ht : o.kind = 3) (h1 : xs[k]? = some s) (h2 : ys[k]? = some t) : t.full = (s.full && !decide ((k : Int) = o.n)) ∧ (t.full = true → sameS s t = true) := by
  have e := h.e
  unfold opRow at e
  rw [if_neg (by omega), if_neg (by omega), if_pos ht] at e
  subst e
  exact evict_turn h1 h2
theorem KLaw.flush {o : Op10} {xs ys : List Slot} {n k : Nat} {s t : Slot} (h : KLaw o xs ys n) (ht : o.kind = 4) (h1 : xs[k]? = some s) (h2 : ys[k]? = some t) : t.full = (s.full && !takesB o.drop s.blk) ∧ (t.full = true → sameS s t = true) := by
  have e := h.e
  unfold opRow at e
  rw [if_neg (by omega), if_neg (by omega), if_neg (by omega), if_pos ht] at e
  subst e
  exact flush_turn h1 h2
theorem KLaw.else_ {o : Op10} {xs ys : List Slot} {n k : Nat} {s t : Slot} (h : KLaw o xs ys n) (ht : opTook o = false) (h3 : o.kind ≠ 3) (h4 : o.kind ≠ 4) (h1 : xs[k]? = some s) (h2 : ys[k]? = some t) : sameS s t = true := by
  have e : ys = xs := by
    rw [h.e]
    unfold opRow
    split; · rfl
    split
    · rename_i h2
      unfold opTook at ht
      rw [Bool.and_eq_false_iff] at ht
      rcases ht with ht | ht
      · simp [h2] at ht
      · rw [if_neg (by rw [ht]; decide)]
    · first
      | rfl
      | rw [if_neg h3, if_neg h4]
  rw [e, h1] at h2
  cases h2
  exact sameS_self s
theorem KLaw.took {o : Op10} {xs ys : List Slot} {n : Nat} (h : KLaw o xs ys n) (hx : NoDbl xs) (ht : opTook o = true) : inN o.blk ys = 1 ∧ turnN xs ys n ≤ 1 := by
  unfold opTook at ht
  rw [Bool.and_eq_true, decide_eq_true_eq] at ht
  have e := h.e
  unfold opRow at e
  rw [if_neg (by omega), if_pos ht.1, if_pos ht.2] at e
  rw [e]
  exact ⟨put_in hx (by have := h.lx; have := h.pos; omega), turn_put _ _ _ _⟩
/-- what is known at one place -/
structure KAt (o : Op10) (xs ys : List Slot) (n j : Nat) (s t : Slot) : Prop where
  law : KLaw o xs ys n
  s : xs[j]? = some s
  t : ys[j]? = some t
  n64 : n ≤ 64
theorem KAt.lt {o : Op10} {xs ys : List Slot} {n j : Nat} {s t : Slot} (h : KAt o xs ys n j s t) : j < n := by
  have := (List.getElem?_eq_some_iff.1 h.s).1
  have := h.law.lx
  omega
theorem KAt.sok {o : Op10} {xs ys : List Slot} {n j : Nat} {f : Bool} {b : Blk} {t : Slot} (h : KAt o xs ys n j ⟨f, b⟩ t) : b.Ok := h.law.ok _ (List.mem_of_getElem? h.s)
theorem KAt.tok {o : Op10} {xs ys : List Slot} {n j : Nat} {f : Bool} {b : Blk} {s : Slot} (h : KAt o xs ys n j s ⟨f, b⟩) : b.Ok := h.law.oky _ (List.mem_of_getElem? h.t)
theorem KAt.full {o : Op10} {xs ys : List Slot} {n j : Nat} {f : Bool} {b : Blk} {s : Slot} (h : KAt o xs ys n j s ⟨f, b⟩) (e : f = true) : inN b ys = 1 ∧ rightB b = true := by
  subst e
  exact ⟨inN_one h.law.nod (List.mem_of_getElem? h.t), h.law.right _ (List.mem_of_getElem? h.t) rfl⟩
theorem KAt.put {o : Op10} {xs ys : List Slot} {n j : Nat} {s t : Slot} (h : KAt o xs ys n j s t) (ht : opTook o = true) (hn : sameS s t = false) : (j : Int) = opAt o xs ∧ t = ⟨true, o.blk⟩ ∧ inN o.blk xs = 0 := h.law.put ht h.s h.t hn
theorem KAt.evict {o : Op10} {xs ys : List Slot} {n j : Nat} {s t : Slot} (h : KAt o xs ys n j s t) (hk : o.kind = 3) : t.full = (s.full && !decide ((j : Int) = o.n)) ∧ (t.full = true → sameS s t = true) := h.law.evict hk h.s h.t
theorem KAt.flush {o : Op10} {xs ys : List Slot} {n j : Nat} {s t : Slot} (h : KAt o xs ys n j s t) (hk : o.kind = 4) : t.full = (s.full && !takesB o.drop s.blk) ∧ (t.full = true → sameS s t = true) := h.law.flush hk h.s h.t
theorem KAt.els {o : Op10} {xs ys : List Slot} {n j : Nat} {s t : Slot} (h : KAt o xs ys n j s t) (ht : opTook o = false) (h3 : o.kind ≠ 3) (h4 : o.kind ≠ 4) : sameS s t = true := h.law.else_ ht h3 h4 h.s h.t
theorem neq_self' (b : Blk) (w : World) : (binOp .neq 29 (.agg #[.int .i64 b.asid, .int .i64 b.size, .int .u32 b.va, .int .u64 b.pa, .int .i64 b.dom, .int .i64 b.ap, .int .u32 b.bits, .bool b.ng, .bool b.xn]) (.agg #[.int .i64 b.asid, .int .i64 b.size, .int .u32 b.va, .int .u64 b.pa, .int .i64 b.dom, .int .i64 b.ap, .int .u32 b.bits, .bool b.ng, .bool b.xn])).run Tryd.prog w = .ok (.bool false) w := by rw [neq_blk, eqB_self]; rfl
def findBlock (n : Nat) : Code → Option Code
  | .block k c => if k = n then some c else findBlock n c
  | .seq a b => match findBlock n a with
    | some c => some c
    | none => findBlock n b
  | .loop c => findBlock n c
  | .cond _ a b => match findBlock n a with
    | some c => some c
    | none => findBlock n b
  | _ => none
def findRegion (n : Nat) : Code → Option Code
  | .region k ops f => if k = n then some (.region k ops f) else none
  | .block _ c => findRegion n c
  | .seq a b => match findRegion n a with
    | some c => some c
    | none => findRegion n b
  | .loop c => findRegion n c
  | .cond _ a b => match findRegion n a with
    | some c => some c
    | none => findRegion n b
  | _ => none
theorem wp_region_tail {P : Program} {id : Nat} {Q : Exit → Act → World → Prop} {a : Act} {w : World} {l : List Oper} (n : Nat) (hm : P.follows .mixedOrders = true) (hB : Region.lexTailB .any l.toArray n = true)
    (h : wpStill P l.toArray w.drew (fun a' => wpList P l.toArray Q (l.drop n) a' w.drew) (l.take n) a) : (Code.region id l.toArray true).wp P Q a w := wp_region_still_tail n hm hB h
noncomputable def keepR17 : Code := (Tryd.f5.body.bind (findRegion 17)).getD .skip
noncomputable def keepR19 : Code := (Tryd.f5.body.bind (findRegion 19)).getD .skip
noncomputable def keepB4 : Code := (Tryd.f5.body.bind (findBlock 4)).getD .skip
noncomputable def keepB2 : Code := (Tryd.f5.body.bind (findBlock 2)).getD .skip
end Go.Proofs.YtngcpcgioophcaaDoor
