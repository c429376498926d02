/- Layer 20: the line of words, over plain data: what it answers, what it keeps. No program is in sight here. Layer 20: the line of words in memory; an append of an element of several cells that tells where the new row lies. Layer 20: the line's Word, may, fault. Layer 20: the line's fault, may. Layer 20: the line: an element more behind what was asked, and behind the words. -/
import Derived.Test.YtpfhplhamnohjaaG11
import Derived.Deep.AppendLies
import Derived.Deep.DeepAppendWide
import Derived.Test.YtpfhplhamnohjaaG00
namespace Go.Proofs.Ytpfhplhamnohjaa
open Go.RowKit

structure Hol where
  lo : Int
  hi : Int
  of_ : Int
  kind : Int
  once : Bool
structure Ask where
  kind : Int
  va : Int
  n : Int
  v : Int
  p : Bool
  crn : Int
  op1 : Int
  crm : Int
  op2 : Int
  w : Int
  cop : Int
  u : Bool
structure LineM where
  puts : List (Int × Int)
  holes : List Hol
  asked : List Ask
  cop : Int
  room : Nat
def putC (p : Int × Int) : List Value := [.int .u32 p.1, .int .u32 p.2]
def holC (h : Hol) : List Value := [.int .u32 h.lo, .int .u32 h.hi, .int .i64 h.of_, .int .i64 h.kind, .bool h.once]
def askC (a : Ask) : List Value := [.int .i64 a.kind, .int .u32 a.va, .int .i64 a.n, .int .u32 a.v, .bool a.p, .int .i64 a.crn, .int .i64 a.op1, .int .i64 a.crm, .int .i64 a.op2, .int .u32 a.w, .int .i64 a.cop, .bool a.u]
/-- the word of a multiple of 4: the last that was put there -/
def hitB (p : Int × Int) (at_ : Int) : Bool := decide (p.1 - p.1 % 4 = at_)
def wordI (ps : List (Int × Int)) (at_ : Int) : Int := ps.foldl (fun r p => if hitB p at_ then p.2 else r) 0
theorem wordI_snoc (ps : List (Int × Int)) (p : Int × Int) (at_ : Int) : wordI (ps ++ [p]) at_ = if hitB p at_ then p.2 else wordI ps at_ := by
  unfold wordI
  rw [List.foldl_append]
  rfl
theorem wordI_take (ps : List (Int × Int)) (k : Nat) (p : Int × Int) (at_ : Int) (h : ps[k]? = some p) : wordI (ps.take (k + 1)) at_ = if hitB p at_ then p.2 else wordI (ps.take k) at_ := by
  obtain ⟨hk, e⟩ := List.getElem?_eq_some_iff.1 h
  rw [List.take_succ_eq_append_getElem hk, wordI_snoc, e]
/-- is a hole passed by? -/
def passB (h : Hol) (va of_ : Int) : Bool := decide (va < h.lo) || (decide (h.hi < va) || bits .and .i64 h.of_ of_ == 0)
def holesI (va of_ : Int) : List Hol → List Hol × Ans
  | [] => ([], ⟨0, 0, 0, 0⟩)
  | h :: t => if passB h va of_ then (h :: (holesI va of_ t).1, (holesI va of_ t).2) else ((if h.once then { h with of_ := 0 } else h) :: t, ⟨0, 9, 2, bits .and .i64 h.kind 15⟩)
theorem holesI_cons (va of_ : Int) (h : Hol) (t : List Hol) : holesI va of_ (h :: t) = if passB h va of_ then (h :: (holesI va of_ t).1, (holesI va of_ t).2) else ((if h.once then { h with of_ := 0 } else h) :: t, ⟨0, 9, 2, bits .and .i64 h.kind 15⟩) := rfl
theorem holesI_take (va of_ : Int) (hs : List Hol) : ∀ k, (∀ h ∈ hs.take k, passB h va of_ = true) → holesI va of_ hs = (hs.take k ++ (holesI va of_ (hs.drop k)).1, (holesI va of_ (hs.drop k)).2) := by
  induction hs with
  | nil => intro k _; simp [holesI]
  | cons h t ih =>
    intro k hp
    cases k with
    | zero => simp
    | succ k =>
      have h1 : passB h va of_ = true := hp h (by simp)
      have h2 := ih k (fun x hx => hp x (by simp [hx]))
      rw [holesI_cons, if_pos h1, h2]
      simp only [List.take_succ_cons, List.drop_succ_cons, List.cons_append]
theorem holesI_all (va of_ : Int) (hs : List Hol) (hp : ∀ h ∈ hs, passB h va of_ = true) : holesI va of_ hs = (hs, ⟨0, 0, 0, 0⟩) := by
  have := holesI_take va of_ hs hs.length (by simpa using hp)
  simpa [holesI] using this
theorem holesI_at (va of_ : Int) (hs : List Hol) (k : Nat) (h : Hol) (hk : hs[k]? = some h) (hp : ∀ x ∈ hs.take k, passB x va of_ = true) (hn : passB h va of_ = false) :
    holesI va of_ hs = (if h.once then hs.set k { h with of_ := 0 } else hs, ⟨0, 9, 2, bits .and .i64 h.kind 15⟩) := by
  obtain ⟨hlt, e⟩ := List.getElem?_eq_some_iff.1 hk
  have hd : hs.drop k = h :: hs.drop (k + 1) := by rw [List.drop_eq_getElem_cons hlt, e]
  have q := holesI_take va of_ hs k hp
  rw [hd, holesI_cons, if_neg (by rw [hn]; simp)] at q
  rw [q]
  dsimp only
  congr 1
  cases h.once
  · simp only [Bool.false_eq_true, if_false]
    rw [← hd, List.take_append_drop]
  · simp only [if_true]
    rw [List.set_eq_take_append_cons_drop, if_pos hlt]
def ofI (kind : Int) : Int := if kind = 3 then 2 else 1
/-- is an address not a multiple of the bytes? -/
def oddB (va n : Int) : Bool := !(n == 1) && !(va % n == 0)
def faultI (hs : List Hol) (kind va n : Int) : List Hol × Ans := if oddB va n then (hs, ⟨0, 1, 0, 0⟩) else holesI va (ofI kind) hs
theorem holesI_val (va of_ : Int) : ∀ hs, (holesI va of_ hs).2.val = 0
  | [] => rfl
  | h :: t => by
    rw [holesI_cons]
    split
    · exact holesI_val va of_ t
    · rfl
theorem faultI_val (hs : List Hol) (kind va n : Int) : (faultI hs kind va n).2.val = 0 := by
  unfold faultI
  split
  · rfl
  · exact holesI_val _ _ _
def lmask (n : Int) : Int := if n = 4 then 4294967295 else if n = 2 then 65535 else 255
/-- 8 bits for each place -/
def pw8 (k : Int) : Int := if k = 0 then 1 else if k = 1 then 256 else if k = 2 then 65536 else 16777216
def storedI (w va n v : Int) : Int := bits .or .u32 (bits .andNot .u32 w (lmask n * pw8 (va % 4) % 4294967296)) (bits .and .u32 v (lmask n) * pw8 (va % 4) % 4294967296)
def loadedI (w va n : Int) : Int := bits .and .u32 (w / pw8 (va % 4)) (lmask n)
def accLine (m : LineM) (kind va n v : Int) (p : Bool) : LineM × Ans :=
  let a : List Ask := m.asked ++ [⟨kind, va, n, v, p, 0, 0, 0, 0, 0, 0, false⟩]
  let f := faultI m.holes kind va n
  if f.2.ok = false then ({ m with holes := f.1, asked := a, room := m.room - 1 }, f.2)
  else if kind = 3 then ({ m with puts := m.puts ++ [(va - va % 4, storedI (wordI m.puts (va - va % 4)) va n v)], holes := f.1, asked := a, room := m.room - 1 }, ⟨0, 0, 0, 0⟩)
  else ({ m with holes := f.1, asked := a, room := m.room - 1 }, ⟨loadedI (wordI m.puts (va - va % 4)) va n, 0, 0, 0⟩)
def mayI (crn : Int) (u : Bool) : Int := if crn.tmod 2 = 1 then 80 else if u = true ∧ 7 < crn then 81 else 0
def mcrLine (m : LineM) (i : Ins) (v : Int) (u : Bool) : LineM × Int :=
  ({ m with asked := m.asked ++ [⟨0, 0, 0, 0, false, i.crn, i.op1, i.crm, i.op2, v, 1, u⟩], cop := if mayI i.crn u = 0 then v else m.cop, room := m.room - 1 }, mayI i.crn u)
def mrcLine (m : LineM) (i : Ins) (u : Bool) : LineM × Int × Int :=
  ({ m with asked := m.asked ++ [⟨0, 0, 0, 0, false, i.crn, i.op1, i.crm, i.op2, 0, 2, u⟩], room := m.room - 1 }, if mayI i.crn u = 0 then bits .or .u32 (m.cop * 16 % 4294967296) (m.cop / 268435456) else 0, mayI i.crn u)
def lineF : BusM LineM := ⟨accLine, mcrLine, mrcLine, LineM.room⟩
/-- rows of elements of several cells -/
theorem flat_len {α : Type} (f : α → List Value) (k : Nat) (hk : ∀ x, (f x).length = k) (xs : List α) : (xs.flatMap f).length = xs.length * k := by
  induction xs with
  | nil => simp
  | cons x xs ih => rw [List.flatMap_cons, List.length_append, hk, ih, List.length_cons, Nat.add_mul]; omega
theorem flat_at {α : Type} (f : α → List Value) (k : Nat) (hk : ∀ x, (f x).length = k) (xs : List α) : ∀ (i j : Nat) (x : α), xs[i]? = some x → j < k → (xs.flatMap f)[i * k + j]? = (f x)[j]? := by
  induction xs with
  | nil => intro i j x h _; simp at h
  | cons y ys ih =>
    intro i j x h hj
    rw [List.flatMap_cons]
    cases i with
    | zero =>
      simp only [List.getElem?_cons_zero, Option.some.injEq] at h
      subst h
      rw [Nat.zero_mul, Nat.zero_add, List.getElem?_append_left (by rw [hk]; exact hj)]
    | succ i =>
      rw [List.getElem?_cons_succ] at h
      rw [Nat.add_mul, List.getElem?_append_right (by rw [hk]; omega), hk, show i * k + 1 * k + j - k = i * k + j by omega]
      exact ih i j x h hj
theorem flat_set {α : Type} (f : α → List Value) (k : Nat) (hk : ∀ x, (f x).length = k) (xs : List α) : ∀ (i j : Nat) (x y : α) (v : Value), xs[i]? = some x → j < k → (f x).set j v = f y → (xs.flatMap f).set (i * k + j) v = (xs.set i y).flatMap f := by
  induction xs with
  | nil => intro i j x y v h _ _; simp at h
  | cons z zs ih =>
    intro i j x y v h hj e
    cases i with
    | zero =>
      simp only [List.getElem?_cons_zero, Option.some.injEq] at h
      subst h
      rw [List.flatMap_cons, Nat.zero_mul, Nat.zero_add, List.set_append_left _ _ (by rw [hk]; exact hj), e, List.set_cons_zero, List.flatMap_cons]
    | succ i =>
      rw [List.getElem?_cons_succ] at h
      rw [List.flatMap_cons, Nat.add_mul, List.set_append_right _ _ (by rw [hk]; omega), hk, show i * k + 1 * k + j - k = i * k + j by omega, ih i j x y v h hj e, List.set_cons_succ, List.flatMap_cons]
theorem putC_len (p : Int × Int) : (putC p).length = 2 := rfl
theorem holC_len (h : Hol) : (holC h).length = 5 := rfl
theorem askC_len (a : Ask) : (askC a).length = 12 := rfl
/-- a row that is owned, known by its elements -/
def IsRow {α : Type} (f : α → List Value) (k : Nat) (e : TypeId) (w : World) (v : Value) (xs : List α) : Prop := w.ownsRow 0 e k v xs.length (xs.flatMap f)
section
variable {α : Type} {f : α → List Value} {k : Nat} {e : TypeId} {w w' : World} {v : Value} {xs : List α}
theorem IsRow.same (h : IsRow f k e w v xs) (hb : ∀ j, v.ownBlock = some j → w'.heap[j]? = w.heap[j]?) : IsRow f k e w' v xs := by
  refine ⟨h.1, ?_⟩
  rcases h.2 with a | ⟨g, cap, cur, rfl, hb0, hg, rest⟩
  · exact .inl a
  · exact .inr ⟨g, cap, cur, rfl, hb0, by rw [hb g rfl]; exact hg, rest⟩
theorem IsRow.lt (h : IsRow f k e w v xs) (j : Nat) (hj : v.ownBlock = some j) : j < w.heap.size := by
  rcases h.2 with ⟨rfl, _⟩ | ⟨g, cap, cur, rfl, hb0, hg, rest⟩
  · cases hj
  · obtain rfl : g = j := Option.some.inj hj
    exact (Array.getElem?_eq_some_iff.1 hg).1
theorem IsRow.form (h : IsRow f k e w v xs) : (v = .slice none 0 0 ∧ xs = []) ∨ ∃ g cap, v = .slice (some ⟨g, 0, none⟩) xs.length cap := by
  rcases h.2 with ⟨a, b⟩ | ⟨g, cap, cur, rfl, _⟩
  · exact .inl ⟨a, List.eq_nil_of_length_eq_zero b⟩
  · exact .inr ⟨g, cap, rfl⟩
theorem IsRow.small (h : IsRow f k e w v xs) : xs.length ≤ 9223372036854775807 := by
  rcases h.2 with ⟨_, b⟩ | ⟨g, cap, cur, rfl, _, _, hn, hc, _⟩
  · omega
  · unfold maxLen at hc; omega
theorem IsRow.cell {g cap : Nat} (h : IsRow f k e w (.slice (some ⟨g, 0, none⟩) xs.length cap) xs) (hk : ∀ x, (f x).length = k) (i j : Nat) (x : α) (hx : xs[i]? = some x) (hj : j < k) : w.cell? ⟨g, i * k + j, none⟩ = (f x)[j]? := by
  rcases h.2 with ⟨a, _⟩ | ⟨g', cap', cur, e', hb0, hg, hnc, hcm, hcs, htake⟩
  · cases a
  · simp only [Value.slice.injEq, Option.some.injEq, Addr.mk.injEq] at e'
    obtain ⟨⟨rfl, _⟩, _, rfl⟩ := e'
    have hi := (List.getElem?_eq_some_iff.1 hx).1
    have hlt : i * k + j < xs.length * k := by
      have : (i + 1) * k ≤ xs.length * k := Nat.mul_le_mul_right k hi
      rw [Nat.add_mul] at this; omega
    rw [cell_of_row w g (i * k + j) cur e (0, 0) hg, ← flat_at f k hk xs i j x hx hj, ← htake, List.getElem?_take_of_lt hlt]
    simp
theorem IsRow.frozen {g cap : Nat} (h : IsRow f k e w (.slice (some ⟨g, 0, none⟩) xs.length cap) xs) (j : Nat) : w.frozen? ⟨g, j, none⟩ = false := by
  rcases h.2 with ⟨a, _⟩ | ⟨g', cap', cur, e', hb0, hg, _⟩
  · cases a
  · simp only [Value.slice.injEq, Option.some.injEq, Addr.mk.injEq] at e'
    obtain ⟨⟨rfl, _⟩, _⟩ := e'
    simp [World.frozen?, hg]
theorem IsRow.set_ {g cap : Nat} (h : IsRow f k e w (.slice (some ⟨g, 0, none⟩) xs.length cap) xs) (hk : ∀ x, (f x).length = k) (i j : Nat) (x y : α) (u : Value) (hx : xs[i]? = some x) (hj : j < k) (he : (f x).set j u = f y) :
    IsRow f k e (w.setCell ⟨g, i * k + j, none⟩ u) (.slice (some ⟨g, 0, none⟩) xs.length cap) (xs.set i y) := by
  rcases h.2 with ⟨a, _⟩ | ⟨g', cap', cur, e', hb0, hg, hnc, hcm, hcs, htake⟩
  · cases a
  · simp only [Value.slice.injEq, Option.some.injEq, Addr.mk.injEq] at e'
    obtain ⟨⟨rfl, _⟩, _, rfl⟩ := e'
    have hi := (List.getElem?_eq_some_iff.1 hx).1
    unfold IsRow
    rw [List.length_set]
    refine ⟨by rw [flat_len f k hk, List.length_set], .inr ⟨g, cap, cur.set! (i * k + j) u, rfl, hb0, ?_, hnc, hcm, by simp [hcs], ?_⟩⟩
    · simp [World.setCell, Array.getElem?_modify, hg]
    · rw [← flat_set f k hk xs i j x y u hx hj he, ← htake]
      simp [List.take_set]
end
end Go.Proofs.Ytpfhplhamnohjaa
namespace Go.Proofs.Ytpfhplhamnohjaa
open Go.RowKit

theorem run_append_row {P : Program} (w : World) (N : Nat) (t ty e : TypeId) (i : TypeInfo) (z : Value) (size bytes : Nat) (ht : P.underlying t = some (.slice e)) (hi : P.info? e = some i) (hz : i.zero = some z)
    (hsize : i.size = size) (hby : i.bytes = bytes) (hzs : z.cells.size = size) (hsz : 0 < size) (v : Value) (n : Nat) (xs : List Value) (hown : w.ownsRow N e size v n xs)
    (ad : Addr) (m c : Nat) (hm : 0 < m) (news : List Value) (hl : news.length = m * size) (hnews : ∀ j y, news[j]? = some y → w.cell? (ad.add j) = some y) (h1 : ∀ y ∈ news, y.oneCell' = true)
    (h63 : n + m ≤ maxLen) (hbytes : ((n + m) + (n + m) / 4 + 192) * bytes ≤ 281474976710656) (hbase : N ≤ w.heap.size) :
    ∃ g cap w', (Builtin.append_ #[t, t] ty #[v, .slice (some ad) m c]).run P w = .ok (.slice (some ⟨g, 0, none⟩) (n + m) cap) w' ∧ w'.ownsRow N e size (.slice (some ⟨g, 0, none⟩) (n + m) cap) (n + m) (xs ++ news) ∧ w.grownBy w' v.ownBlock ∧ (v.ownBlock = some g ∨ g = w.heap.size) ∧ g < w'.heap.size := by
  obtain ⟨v', w', hr, h2, h3, _⟩ := run_append_own_wide (P := P) w N t ty e i z size bytes ht hi hz hsize hby hzs hsz v n xs hown ad m c news hl hnews h1 h63 hbytes hbase
  obtain ⟨g, cap, rfl, _, hlt⟩ := h2.form (by omega)
  refine ⟨g, cap, w', hr, h2, h3, ?_, hlt⟩
  have hm63 : ((n + m : Nat) : Int) ≤ 9223372036854775807 := by unfold maxLen at h63; omega
  subst hby hsize
  have hq48 : m * i.bytes ≤ 281474976710656 := Nat.le_trans (Nat.mul_le_mul_right _ (by omega)) hbytes
  rcases hown.2 with ⟨rfl, rfl⟩ | ⟨g0, cap0, cur, rfl, _, hg, hnc, hcm, hcs, htake⟩
  · have hq := run_append_nil (P := P) w t ty e i z ht hi hz ad m c news hl hnews hm (by omega) hq48
    rw [hr] at hq
    simp only [Result.ok.injEq, Value.slice.injEq, Option.some.injEq, Addr.mk.injEq] at hq
    exact .inr hq.1.1.1
  · by_cases hroom : n + m ≤ cap0
    · have hq := run_append_room (P := P) w t ty e i ht hi g0 n cap0 cur hg ad m c news hl hnews h1 hroom (by rw [hcs, hl, ← Nat.add_mul]; exact Nat.mul_le_mul_right _ hroom)
      rw [hr] at hq
      simp only [Result.ok.injEq, Value.slice.injEq, Option.some.injEq, Addr.mk.injEq] at hq
      exact .inl (by simp [Value.ownBlock, hq.1.1.1])
    · have hq := run_append_grow (P := P) w t ty e i z ht hi hz ⟨g0, 0, none⟩ n cap0 xs hown.1 (hown.cells (g := g0) rfl) ad m c news hl hnews (by omega) hm63 (growslice_fits_wide (by omega) hbytes)
      rw [hr] at hq
      simp only [Result.ok.injEq, Value.slice.injEq, Option.some.injEq, Addr.mk.injEq] at hq
      exact .inr hq.1.1.1
theorem wpList_append_row {P : Program} {w : World} {ops : Array Oper} {rest : List Oper} {o : Oper} {a : Act} {Q : Exit → Act → World → Prop} (hgd : o.guard = none) (s x : Operand) (t : TypeId)
    (ho : o.op = .call { callee := .builtin .append, args := #[s, x], argTypes := #[t, t] }) (N : Nat) (e : TypeId) (i : TypeInfo) (z : Value) (size bytes : Nat) (ht : P.underlying t = some (.slice e)) (hi : P.info? e = some i) (hz : i.zero = some z)
    (hsize : i.size = size) (hby : i.bytes = bytes) (hzs : z.cells.size = size) (hsz : 0 < size) (v : Value) (n : Nat) (xs : List Value) (hs : a.eval s = v) (hown : w.ownsRow N e size v n xs)
    (ad : Addr) (m c : Nat) (hm : 0 < m) (news : List Value) (hx : a.eval x = .slice (some ad) m c) (hl : news.length = m * size) (hnews : ∀ j y, news[j]? = some y → w.cell? (ad.add j) = some y) (h1 : ∀ y ∈ news, y.oneCell' = true)
    (h63 : n + m ≤ maxLen) (hbytes : ((n + m) + (n + m) / 4 + 192) * bytes ≤ 281474976710656) (hbase : N ≤ w.heap.size)
    (h : ∀ g cap w', w'.ownsRow N e size (.slice (some ⟨g, 0, none⟩) (n + m) cap) (n + m) (xs ++ news) → w.grownBy w' v.ownBlock → (v.ownBlock = some g ∨ g = w.heap.size) → g < w'.heap.size → wpList P ops Q rest (a.put o.dst (.slice (some ⟨g, 0, none⟩) (n + m) cap)) w') : wpList P ops Q (o :: rest) a w := by
  obtain ⟨g, cap, w', hr, h2, h3, h4, h5⟩ := run_append_row (P := P) w N t o.type e i z size bytes ht hi hz hsize hby hzs hsz v n xs hown ad m c hm news hl hnews h1 h63 hbytes hbase
  refine wpList_plain hgd fun K hK => ?_
  unfold Oper.wp execOp
  simp only [ho, resolve, invoke, builtin, Sem.run_bind, Sem.run_pure, Result.andThen_ok, List.map_toArray, List.map_cons, List.map_nil, hs, hx, hr]
  exact hK _ _ (h _ _ _ h2 h3 h4 h5)
/-- what the numbers of a line keep to -/
structure LineOk (m : LineM) : Prop where
  puts : ∀ p ∈ m.puts, (0 ≤ p.1 ∧ p.1 < 4294967296) ∧ (0 ≤ p.2 ∧ p.2 < 4294967296)
  holes : ∀ h ∈ m.holes, (0 ≤ h.lo ∧ h.lo < 4294967296) ∧ (0 ≤ h.hi ∧ h.hi < 4294967296)
  cop : 0 ≤ m.cop ∧ m.cop < 4294967296
  asks : m.asked.length + m.room ≤ 1099511627776
  putn : m.puts.length + m.room ≤ 18691697672192
/-- the line in memory; O: its blocks -/
structure IsLine (g : Nat) (m : LineM) (O : Nat → Prop) (w : World) : Prop where
  ok : LineOk m
  ex : ∃ vp vh va, Blok w g 48 [vp, vh, va, .int .u32 m.cop] ∧ IsRow putC 2 69 w vp m.puts ∧ IsRow holC 5 179 w vh m.holes ∧ IsRow askC 12 54 w va m.asked ∧
    (∀ j, O j ↔ (j = g ∨ vp.ownBlock = some j ∨ vh.ownBlock = some j ∨ va.ownBlock = some j)) ∧ vp.ownBlock ≠ some g ∧ vh.ownBlock ≠ some g ∧ va.ownBlock ≠ some g ∧
    (∀ j, vp.ownBlock = some j → vh.ownBlock ≠ some j ∧ va.ownBlock ≠ some j) ∧ ∀ j, vh.ownBlock = some j → va.ownBlock ≠ some j
section
variable {g : Nat} {m : LineM} {O : Nat → Prop} {w w' : World} {S : Nat → Prop}
theorem IsLine.old (h : IsLine g m O w) (j : Nat) (hj : O j) : j < w.heap.size := by
  obtain ⟨vp, vh, va, hb, h1, h2, h3, hO, _⟩ := h.ex
  rcases (hO j).1 hj with rfl | q | q | q
  · exact hb.lt
  · exact h1.lt j q
  · exact h2.lt j q
  · exact h3.lt j q
theorem IsLine.keep (h : IsLine g m O w) (k : GrownS w w' S) (hn : ∀ j, O j → ¬ S j) : IsLine g m O w' := by
  have sm : ∀ j, O j → w'.heap[j]? = w.heap[j]? := fun j q => k.block j (h.old j q) (hn j q)
  obtain ⟨vp, vh, va, hb, h1, h2, h3, hO, rest⟩ := h.ex
  exact ⟨h.ok, vp, vh, va, (sm g ((hO g).2 (Or.inl rfl))).trans hb, h1.same (fun j q => sm j ((hO j).2 (Or.inr (Or.inl q)))), h2.same (fun j q => sm j ((hO j).2 (Or.inr (Or.inr (Or.inl q))))), h3.same (fun j q => sm j ((hO j).2 (Or.inr (Or.inr (Or.inr q))))), hO, rest⟩
end
theorem put_info : (Try.prog.info? 69).map (fun i => (i.zero, i.size, i.bytes)) = some (some (.agg #[.int .u32 0, .int .u32 0]), 2, 8) := by kernel_rfl
theorem ask_info : (Try.prog.info? 54).map (fun i => (i.zero, i.size, i.bytes)) = some (some (.agg (askC ⟨0, 0, 0, 0, false, 0, 0, 0, 0, 0, 0, false⟩).toArray), 12, 88) := by kernel_rfl
theorem hole_info : (Try.prog.info? 179).map (fun i => (i.zero, i.size, i.bytes)) = some (some (.agg #[.int .u32 0, .int .u32 0, .int .i64 0, .int .i64 0, .bool false]), 5, 32) := by kernel_rfl
end Go.Proofs.Ytpfhplhamnohjaa
namespace Go.Proofs.Ytpfhplhamnohjaa
set_option maxHeartbeats 25600000
set_option maxRecDepth 100000
open Go.RowKit

theorem gdrewN {w w' : World} (h : GrownS w w' fun _ => False) (n : Nat) : GrownS w (w'.drewN n) fun _ => False := h.trans (GrownS.drewN _ _ n)
theorem LineWord_is (g : Nat) (m : LineM) (O : Nat → Prop) (at_ : Int) (w : World) (h : IsLine g m O w) :
    Calls Try.prog 17 #[.pointer (some ⟨g, 0, none⟩), .int .u32 at_] w fun e w' => e = .returned (.int .u32 (wordI m.puts at_)) ∧ Below w.heap.size w w' := by
  obtain ⟨vp, vh, va, hb, h1, _⟩ := h.ex
  have hu := h.ok.puts
  have hp63 : m.puts.length ≤ 18691697672192 := by have := h.ok.putn; omega
  have t1 : w.cell? ⟨g, 0, none⟩ = some vp := hb.cell 0
  rcases h1.form with ⟨rfl, e0⟩ | ⟨gp, cap, rfl⟩
  · have HE := Lib.hid (show wordI m.puts at_ = 0 by rw [e0]; rfl)
    clear e0 h1 hu
    go_enter Try.func17, Try.ntmps17
    go_wp2_with fail
    go_loopw [5] (fun v5 wr => v5 = .int .i64 (-1) ∧ wr = w) (fun _ _ => 0)
    case atStart => exact ⟨rfl, rfl⟩
    case round =>
      obtain ⟨rfl, rfl⟩ := hrel
      go_wp2_with fail
      go_ret
      exact ⟨by rw [HE.out]; rfl, Below.refl _ _⟩
  · go_enter Try.func17, Try.ntmps17
    go_wp2_with fail
    go_loopw [5] (fun v5 wr => ∃ j : Nat, j ≤ m.puts.length ∧ v5 = .int .i64 ((j : Int) - 1) ∧ Hid (wordI m.puts at_ = wordI (m.puts.take j) at_) ∧ Below w.heap.size w wr) (fun v5 _ => (intOf v5 + 1).toNat)
    case atStart => exact ⟨m.puts.length, Nat.le_refl _, by go_num, Lib.hid (by rw [List.take_length]), Below.refl _ _⟩
    case round =>
      obtain ⟨j, hj, rfl, hw, hB⟩ := hrel
      have hbr := hb.below hB hb.lt
      have hr : IsRow putC 2 69 wr (.slice (some ⟨gp, 0, none⟩) m.puts.length cap) m.puts := h1.same (fun j q => hB.block j (h1.lt j q))
      have tr : wr.cell? ⟨g, 0, none⟩ = some (.slice (some ⟨gp, 0, none⟩) m.puts.length cap) := hbr.cell 0
      by_cases hj0 : 0 < j
      · obtain ⟨i, rfl⟩ : ∃ i, j = i + 1 := ⟨j - 1, by omega⟩
        obtain ⟨p, hp⟩ : ∃ p, m.puts[i]? = some p := ⟨_, List.getElem?_eq_getElem (by omega)⟩
        have e1 : ((i + 1 : Nat) : Int) - 1 = i := by omega
        rw [e1]
        have d0 : wr.cell? ⟨gp, i * 2, none⟩ = some (.int .u32 p.1) := hr.cell putC_len i 0 p hp (by omega)
        have d1 : wr.cell? ⟨gp, i * 2 + 1, none⟩ = some (.int .u32 p.2) := hr.cell putC_len i 1 p hp (by omega)
        obtain ⟨⟨u0, u1⟩, u2, u3⟩ := hu p (List.mem_of_getElem? hp)
        have tm : p.1.tmod 4 = p.1 % 4 := Int.tmod_eq_emod_of_nonneg u0
        have hmd : (p.1 - p.1 % 4) % 4294967296 = p.1 - p.1 % 4 := by omega
        have WT := Lib.hid (wordI_take m.puts i p at_ hp)
        have HB : (p.1 - p.1 % 4 == at_) = hitB p at_ := by unfold hitB; rfl
        clear hp hu
        obtain ⟨hit, hh⟩ : ∃ hit, hitB p at_ = hit := ⟨_, rfl⟩
        rw [hh] at WT HB
        clear hh
        cases hit
        · go_wp2_with fail
          go_quiet (fail)
          go_wp2
          go_roundw
          case rel => exact ⟨i, by omega, by go_num, Lib.hid (by rw [hw.out, WT.out]; rfl), bdrewN hB _⟩
          case measure => simp [intOf]
        · go_wp2_with fail
          go_quiet (fail)
          go_wp2
          go_ret
          exact ⟨by rw [hw.out, WT.out]; rfl, bdrewN hB _⟩
      · obtain rfl : j = 0 := by omega
        go_wp2_with fail
        go_ret
        exact ⟨by rw [hw.out]; rfl, hB⟩
end Go.Proofs.Ytpfhplhamnohjaa
namespace Go.Proofs.Ytpfhplhamnohjaa
set_option maxHeartbeats 25600000
set_option maxRecDepth 100000
open Go.RowKit

theorem fault_size : (Try.prog.info? 36).map (·.size) = some 3 := by kernel_rfl
def fltC (x : Ans) : List Value := [.int .i64 x.fk, .int .i64 x.fl, .int .i64 x.fd]
theorem IsLine.holed {g : Nat} {m : LineM} {O : Nat → Prop} {w w' : World} (h : IsLine g m O w) (hs : List Hol) (hok : ∀ h ∈ hs, (0 ≤ h.lo ∧ h.lo < 4294967296) ∧ (0 ≤ h.hi ∧ h.hi < 4294967296)) {vh : Value}
    (hv : w.cell? ⟨g, 1, none⟩ = some vh) (hr : IsRow holC 5 179 w' vh hs) (k : GrownS w w' (fun j => vh.ownBlock = some j)) : IsLine g { m with holes := hs } O w' := by
  obtain ⟨vp, vh', va, hb, h1, h2, h3, hO, np, nh, na, d1, d2⟩ := h.ex
  have hc : w.cell? ⟨g, 1, none⟩ = some vh' := hb.cell 1
  obtain rfl : vh' = vh := Option.some.inj (hc.symm.trans hv)
  exact ⟨⟨h.ok.puts, hok, h.ok.cop, h.ok.asks, h.ok.putn⟩, vp, vh', va, hb.gs k nh, h1.same (fun j q => k.block j (h1.lt j q) (d1 j q).1), hr, h3.same (fun j q => k.block j (h3.lt j q) (fun e => d2 j e q)), hO, np, nh, na, d1, d2⟩
theorem pass_next {hs : List Hol} {k : Nat} {x : Hol} {va of_ : Int} (hx : hs[k]? = some x) (h : ∀ y ∈ hs.take k, passB y va of_ = true) (hp : passB x va of_ = true) : ∀ y ∈ hs.take (k + 1), passB y va of_ = true := by
  obtain ⟨hk, e⟩ := List.getElem?_eq_some_iff.1 hx
  intro y hy
  rw [List.take_succ_eq_append_getElem hk, e] at hy
  rcases List.mem_append.1 hy with q | q
  · exact h y q
  · rw [List.mem_singleton.1 q]; exact hp
theorem lmay_is (t : Ins) (u : Bool) (w : World) : Calls Try.prog 124 #[.agg #[.int .i64 t.crn, .int .i64 t.op1, .int .i64 t.crm, .int .i64 t.op2], .bool u] w fun e w' => e = .returned (.int .i64 (mayI t.crn u)) ∧ Below w.heap.size w w' := by
  have hB : ∀ o, Below w.heap.size w (w.alloc o) := fun o => (Below.refl _ _).alloc (Nat.le_refl _) _
  by_cases a : t.crn.tmod 2 = 1
  · have HE := Lib.hid (show mayI t.crn u = 80 by unfold mayI; rw [if_pos a])
    go_enter Try.func124, Try.ntmps124
    go_wp2
    go_ret
    exact ⟨by rw [HE.out]; rfl, hB _⟩
  cases u
  · have HE := Lib.hid (show mayI t.crn false = 0 by unfold mayI; rw [if_neg a]; simp)
    go_enter Try.func124, Try.ntmps124
    go_wp2
    go_ret
    exact ⟨by rw [HE.out]; rfl, hB _⟩
  · by_cases b : 7 < t.crn
    · have HE := Lib.hid (show mayI t.crn true = 81 by unfold mayI; rw [if_neg a, if_pos ⟨rfl, b⟩])
      have a2 : (t.crn % 2 == 1) = false := by rw [Int.tmod_eq_emod_of_nonneg (by omega)] at a; simp [a]
      go_enter Try.func124, Try.ntmps124
      go_wp2
      go_ret
      exact ⟨by rw [HE.out]; rfl, hB _⟩
    · have HE := Lib.hid (show mayI t.crn true = 0 by unfold mayI; rw [if_neg a, if_neg (fun q => b q.2)])
      go_enter Try.func124, Try.ntmps124
      go_wp2
      go_ret
      exact ⟨by rw [HE.out]; rfl, hB _⟩
theorem fault_is (g : Nat) (m : LineM) (O : Nat → Prop) (kind va n v : Int) (p : Bool) (hva : 0 ≤ va ∧ va < 4294967296) (hn : n = 1 ∨ n = 2 ∨ n = 4) (w : World) (h : IsLine g m O w) :
    Calls Try.prog 123 #[.pointer (some ⟨g, 0, none⟩), .agg #[.int .i64 kind, .int .u32 va, .int .i64 n, .int .u32 v, .bool p]] w
      fun e w' => e = .returned (.agg (fltC (faultI m.holes kind va n).2).toArray) ∧ IsLine g { m with holes := (faultI m.holes kind va n).1 } O w' ∧ GrownS w w' O := by
  obtain ⟨vp, vh, va', hb, h1, h2, h3, hO, np, nh, na, d1, d2⟩ := h.ex
  have hlt := hb.lt
  have hu := h.ok.holes
  have HI := Lib.hid h
  have hA : Blok ((w.alloc (.cells #[.int .i64 kind, .int .u32 va, .int .i64 n, .int .u32 v, .bool p] 50)).alloc (.cells #[.int .i64 0, .int .i64 0, .int .i64 0] 36)) w.heap.size 50 [.int .i64 kind, .int .u32 va, .int .i64 n, .int .u32 v, .bool p] := (Blok.new w _ _).alloc _
  have hZ : Blok ((w.alloc (.cells #[.int .i64 kind, .int .u32 va, .int .i64 n, .int .u32 v, .bool p] 50)).alloc (.cells #[.int .i64 0, .int .i64 0, .int .i64 0] 36)) (w.heap.size + 1) 36 (fltC ⟨0, 0, 0, 0⟩) := by
    have := Blok.new (w.alloc (.cells #[.int .i64 kind, .int .u32 va, .int .i64 n, .int .u32 v, .bool p] 50)) 36 (fltC ⟨0, 0, 0, 0⟩)
    rwa [show (w.alloc (.cells #[.int .i64 kind, .int .u32 va, .int .i64 n, .int .u32 v, .bool p] 50)).heap.size = w.heap.size + 1 by simp] at this
  have hB : Below w.heap.size w ((w.alloc (.cells #[.int .i64 kind, .int .u32 va, .int .i64 n, .int .u32 v, .bool p] 50)).alloc (.cells #[.int .i64 0, .int .i64 0, .int .i64 0] 36)) := ((Below.refl _ _).alloc (Nat.le_refl _) _).alloc (by simp) _
  obtain ⟨R, hR⟩ : ∃ R, R = faultI m.holes kind va n := ⟨_, rfl⟩
  rw [← hR]
  have HR := Lib.hid hR
  clear hR
  go_enter Try.func123, Try.ntmps123
  go_upto_region 1 with fail
  generalize (w.alloc (.cells #[.int .i64 kind, .int .u32 va, .int .i64 n, .int .u32 v, .bool p] 50)).alloc (.cells #[.int .i64 0, .int .i64 0, .int .i64 0] 36) = W1 at hA hZ hB ⊢
  generalize Value.agg #[.int .i64 kind, .int .u32 va, .int .i64 n, .int .u32 v, .bool p] = vv
  have a0 : ∀ w', Below W1.heap.size W1 w' → w'.cell? ⟨w.heap.size, 0, none⟩ = some (.int .i64 kind) := fun w' k => (hA.below k hA.lt).cell 0
  have a1 : ∀ w', Below W1.heap.size W1 w' → w'.cell? ⟨w.heap.size, 1, none⟩ = some (.int .u32 va) := fun w' k => (hA.below k hA.lt).cell 1
  have a2 := hA.cell 2
  have a1' := hA.cell 1
  simp only [List.getElem?_cons_zero, List.getElem?_cons_succ] at a1' a2
  obtain ⟨odd, ho⟩ : ∃ odd, oddB va n = odd := ⟨_, rfl⟩
  have HO := Lib.hid ho
  go_cut [19] (fun s19 wx => s19 = .bool odd ∧ wx = W1)
  case first =>
    clear a0 a1
    unfold oddB at ho
    obtain ⟨v0, v1⟩ := hva
    rcases hn with rfl | rfl | rfl
    · subst ho
      go_wp2_with fail
      go_meet
      exact ⟨rfl, rfl⟩
    · subst ho
      go_wp2_with fail
      go_meet
      exact ⟨by simp [bne], rfl⟩
    · subst ho
      go_wp2_with fail
      go_meet
      exact ⟨by simp [bne], rfl⟩
  case rest =>
    obtain ⟨rfl, rfl⟩ := hcut
    clear a1' a2
    have zne : ∀ j, j < w.heap.size → some j ≠ some (w.heap.size + 1) := fun j hj e => by have := Option.some.inj e; omega
    have hOg : ∀ {w'}, GrownS w w' (fun j => vh.ownBlock = some j) → GrownS w w' O := fun k => grownS_mono k (fun j q => (hO j).2 (Or.inr (Or.inr (Or.inl q))))
    have BK := Lib.hid (fun w' (k : Below wc.heap.size wc w') => hB.trans (k.mono hB.size))
    cases odd
    · have e1 : R = holesI va (ofI kind) m.holes := by rw [HR.out]; unfold faultI; rw [HO.out]; rfl
      have HE := Lib.hid e1
      clear e1 HR HO
      rcases h2.form with ⟨rfl, e0⟩ | ⟨gh, cap, rfl⟩
      · have e2 : R = (m.holes, ⟨0, 0, 0, 0⟩) := by rw [HE.out, e0]; rfl
        have HF := Lib.hid e2
        clear e2 HE e0
        have t1 : wc.cell? ⟨g, 1, none⟩ = some (.slice none 0 0) := (hb.below hB hlt).cell 1
        clear a0 a1
        go_wp2_with fail
        go_loopw [5] (fun v5 wr => v5 = .int .i64 0 ∧ wr = wc) (fun _ _ => 0)
        case atStart => exact ⟨rfl, rfl⟩
        case round =>
          obtain ⟨rfl, rfl⟩ := hrel
          go_wp2_with (refine wpList_store_all rfl 36 (.tmp 4) (.tmp 72) rfl (w.heap.size + 1) (fltC ⟨0, 0, 0, 0⟩).toArray rfl rfl hZ rfl (by rw [fault_size]; rfl) rfl ?_; intro w8 B8 g8 _z8)
          refine ret_cell 4 36 (w.heap.size + 1) (fltC ⟨0, 0, 0, 0⟩) _ rfl rfl B8.range Try.underlying36 rfl (by rw [fault_size]; rfl) rfl ?_
          have G : GrownS w w8 (fun _ => False) := (GrownS.ofBelow hB).new g8 (by omega)
          rw [HF.out]
          exact ⟨rfl, HI.out.keep G (fun _ _ q => q), grownS_mono G (fun _ q => q.elim)⟩
      · have hl63 : m.holes.length ≤ 9223372036854775807 := h2.small
        have t1 : wc.cell? ⟨g, 1, none⟩ = some (.slice (some ⟨gh, 0, none⟩) m.holes.length cap) := (hb.below hB hlt).cell 1
        go_wp2_with fail
        go_loopw [5] (fun v5 wr => ∃ k : Nat, k ≤ m.holes.length ∧ v5 = .int .i64 k ∧ Hid (∀ h ∈ m.holes.take k, passB h va (ofI kind) = true) ∧ Below wc.heap.size wc wr) (fun v5 _ => m.holes.length - (intOf v5).toNat)
        case atStart => exact ⟨0, Nat.zero_le _, rfl, Lib.hid (fun h q => by simp at q), Below.refl _ _⟩
        case round =>
          obtain ⟨k, hk, rfl, hpass, hBr⟩ := hrel
          have hbr := (hb.below hB hlt).below hBr (by have := hB.size; omega)
          have hZr := hZ.below hBr hZ.lt
          have t2 : wr.cell? ⟨g, 1, none⟩ = some (.slice (some ⟨gh, 0, none⟩) m.holes.length cap) := hbr.cell 1
          have hr : IsRow holC 5 179 wr (.slice (some ⟨gh, 0, none⟩) m.holes.length cap) m.holes := h2.same (fun j q => (BK.out _ hBr).block j (h2.lt j q))
          by_cases hlt2 : k < m.holes.length
          · obtain ⟨x, hx⟩ : ∃ x, m.holes[k]? = some x := ⟨_, List.getElem?_eq_getElem hlt2⟩
            have d0 : wr.cell? ⟨gh, k * 5, none⟩ = some (.int .u32 x.lo) := hr.cell holC_len k 0 x hx (by omega)
            have d1 : wr.cell? ⟨gh, k * 5 + 1, none⟩ = some (.int .u32 x.hi) := hr.cell holC_len k 1 x hx (by omega)
            have d2 : wr.cell? ⟨gh, k * 5 + 2, none⟩ = some (.int .i64 x.of_) := hr.cell holC_len k 2 x hx (by omega)
            have d3 : wr.cell? ⟨gh, k * 5 + 3, none⟩ = some (.int .i64 x.kind) := hr.cell holC_len k 3 x hx (by omega)
            have d4 : wr.cell? ⟨gh, k * 5 + 4, none⟩ = some (.bool x.once) := hr.cell holC_len k 4 x hx (by omega)
            have HX := Lib.hid hx
            have u0 := hu x (List.mem_of_getElem? hx)
            clear hx hu
            go_upto_region 7 with fail
            have hX : Blok (wr.alloc (.cells #[.int .u32 x.lo, .int .u32 x.hi, .int .i64 x.of_, .int .i64 x.kind, .bool x.once] 179)) wr.heap.size 179 (holC x) := Blok.new wr _ (holC x)
            have hBx : Below wc.heap.size wc (wr.alloc (.cells #[.int .u32 x.lo, .int .u32 x.hi, .int .i64 x.of_, .int .i64 x.kind, .bool x.once] 179)) := hBr.alloc hBr.size _
            have hr6 := hr.same (w' := wr.alloc (.cells #[.int .u32 x.lo, .int .u32 x.hi, .int .i64 x.of_, .int .i64 x.kind, .bool x.once] 179)) (fun j q => Below.heap_alloc wr _ j (hr.lt j q))
            have hZ6 := hZr.alloc (.cells #[.int .u32 x.lo, .int .u32 x.hi, .int .i64 x.of_, .int .i64 x.kind, .bool x.once] 179)
            have b6 := hbr.alloc (.cells #[.int .u32 x.lo, .int .u32 x.hi, .int .i64 x.of_, .int .i64 x.kind, .bool x.once] 179)
            have hzs : wr.heap.size = (wr.alloc (.cells #[.int .u32 x.lo, .int .u32 x.hi, .int .i64 x.of_, .int .i64 x.kind, .bool x.once] 179)).heap.size - 1 := by simp
            generalize Value.agg #[.int .u32 x.lo, .int .u32 x.hi, .int .i64 x.of_, .int .i64 x.kind, .bool x.once] = vx
            generalize wr.alloc (.cells #[.int .u32 x.lo, .int .u32 x.hi, .int .i64 x.of_, .int .i64 x.kind, .bool x.once] 179) = w6 at hX hBx hr6 hZ6 b6 ⊢
            clear hzs d0 d1 d2 d3 d4 t1 t2
            have x0 : w6.cell? ⟨wr.heap.size, 0, none⟩ = some (.int .u32 x.lo) := hX.cell 0
            have x1 : w6.cell? ⟨wr.heap.size, 1, none⟩ = some (.int .u32 x.hi) := hX.cell 1
            have x2 : w6.cell? ⟨wr.heap.size, 2, none⟩ = some (.int .i64 x.of_) := hX.cell 2
            have x3 : w6.cell? ⟨wr.heap.size, 3, none⟩ = some (.int .i64 x.kind) := hX.cell 3
            have x4 : w6.cell? ⟨wr.heap.size, 4, none⟩ = some (.bool x.once) := hX.cell 4
            have p0 := a0 w6 hBx
            have p1 := a1 w6 hBx
            have xne : ∀ v, (w6.setCell ⟨gh, k * 5 + 2, none⟩ v).cell? ⟨wr.heap.size, 3, none⟩ = some (.int .i64 x.kind) := fun v => by
              have := hr6.lt gh rfl
              have l2 := hr.lt gh rfl
              exact (hX.far (p := ⟨gh, k * 5 + 2, none⟩) (by simp; omega) v).cell 3
            have r0 : w6.cell? ⟨gh, k * 5 + 2, none⟩ = some (.int .i64 x.of_) := hr6.cell holC_len k 2 x HX.out (by omega)
            have r1 := hr6.frozen (k * 5 + 2)
            have t6 : w6.cell? ⟨g, 1, none⟩ = some (.slice (some ⟨gh, 0, none⟩) m.holes.length cap) := b6.cell 1
            go_upto_if 39 with fail
            go_cut [7] (fun s7 wx => s7 = .int .i64 (ofI kind) ∧ wx = w6)
            case first =>
              by_cases k3 : kind = 3
              · go_wp2_with fail
                go_meet
                exact ⟨by simp [ofI, k3], rfl⟩
              · go_wp2_with fail
                go_meet
                exact ⟨by simp [ofI, k3], rfl⟩
            case rest =>
              obtain ⟨rfl, rfl⟩ := hcut
              have PN := Lib.hid (fun q => pass_next HX.out hpass.out q : passB x va (ofI kind) = true → _)
              have NP := Lib.hid (fun q => holesI_at va (ofI kind) m.holes k x HX.out hpass.out q : passB x va (ofI kind) = false → _)
              have PD := Lib.hid (show passB x va (ofI kind) = (decide (va < x.lo) || (decide (x.hi < va) || bits .and .i64 x.of_ (ofI kind) == 0)) from rfl)
              obtain ⟨o7, ho7⟩ : ∃ o7, ofI kind = o7 := ⟨_, rfl⟩
              have HO7 := Lib.hid ho7
              rw [ho7] at PN NP PD HE hpass ⊢
              clear ho7
              by_cases c1 : va < x.lo
              · have HP := Lib.hid (show ∀ y ∈ m.holes.take (k + 1), passB y va (ofI kind) = true by rw [HO7.out]; exact PN.out (by rw [PD.out]; simp [c1]))
                clear hX hr6 hZ6 b6 PN NP PD
                go_wp2_with fail
                go_roundw
                case rel => exact ⟨k + 1, by omega, by go_num, HP, hBx⟩
                case measure => simp [intOf]; omega
              by_cases c2 : x.hi < va
              · have HP := Lib.hid (show ∀ y ∈ m.holes.take (k + 1), passB y va (ofI kind) = true by rw [HO7.out]; exact PN.out (by rw [PD.out]; simp [c2]))
                clear hX hr6 hZ6 b6 PN NP PD
                go_wp2_with fail
                go_roundw
                case rel => exact ⟨k + 1, by omega, by go_num, HP, hBx⟩
                case measure => simp [intOf]; omega
              by_cases c3 : bits .and .i64 x.of_ o7 = 0
              · have HP := Lib.hid (show ∀ y ∈ m.holes.take (k + 1), passB y va (ofI kind) = true by rw [HO7.out]; exact PN.out (by rw [PD.out]; simp [c3]))
                clear hX hr6 hZ6 b6 PN NP PD
                go_wp2_with fail
                go_roundw
                case rel => exact ⟨k + 1, by omega, by go_num, HP, hBx⟩
                case measure => simp [intOf]; omega
              have hR := HE.out
              rw [NP.out (by rw [PD.out]; simp [c1, c2, c3])] at hR
              have HS := Lib.hid hr6
              have HZ := Lib.hid hZ6
              have HB6 := Lib.hid (BK.out _ hBx)
              have U := Lib.hid u0
              clear hr6 hZ6 b6 PN NP PD HE u0 hX hpass
              cases ho : x.once
              · rw [ho] at x4 hR
                simp only [Bool.false_eq_true, if_false] at hR
                have HF := Lib.hid hR
                clear hR
                go_wp2_with (refine wpList_store_all rfl 36 (.tmp 4) (.tmp 71) rfl (w.heap.size + 1) (fltC ⟨0, 9, 2, bits .and .i64 x.kind 15⟩).toArray rfl rfl HZ.out rfl (by rw [fault_size]; rfl) rfl ?_; intro w8 B8 g8 _z8)
                refine ret_cell 4 36 (w.heap.size + 1) (fltC ⟨0, 9, 2, bits .and .i64 x.kind 15⟩) _ rfl rfl B8.range Try.underlying36 rfl (by rw [fault_size]; rfl) rfl ?_
                have G : GrownS w w8 (fun _ => False) := (GrownS.ofBelow HB6.out).new g8 (by omega)
                rw [HF.out]
                exact ⟨rfl, HI.out.keep G (fun _ _ q => q), grownS_mono G (fun _ q => q.elim)⟩
              · rw [ho] at x4 hR
                simp only [if_true] at hR
                have HF := Lib.hid hR
                clear hR
                have hgl := h2.lt gh rfl
                go_wp2_with (refine wpList_store_all rfl 36 (.tmp 4) (.tmp 71) rfl (w.heap.size + 1) (fltC ⟨0, 9, 2, bits .and .i64 x.kind 15⟩).toArray rfl rfl (HZ.out.far (by simp; omega) _) rfl (by rw [fault_size]; rfl) rfl ?_; intro w8 B8 g8 _z8)
                refine ret_cell 4 36 (w.heap.size + 1) (fltC ⟨0, 9, 2, bits .and .i64 x.kind 15⟩) _ rfl rfl B8.range Try.underlying36 rfl (by rw [fault_size]; rfl) rfl ?_
                have hS8 := (HS.out.set_ holC_len k 2 x ⟨x.lo, x.hi, 0, x.kind, true⟩ (.int .i64 0) HX.out (by omega) (by simp [holC, ho])).same (w' := w8) (fun j q => g8.block j (by have := HS.out.lt j q; simp; omega) (fun e => by have := Option.some.inj e; have := h2.lt j q; omega))
                have G : GrownS w w8 (fun j => (Value.slice (some ⟨gh, 0, none⟩) m.holes.length cap).ownBlock = some j) := GrownS.new (S := fun j => (Value.slice (some ⟨gh, 0, none⟩) m.holes.length cap).ownBlock = some j) ((GrownS.ofBelow HB6.out).one (grown_one _ _ _ _) rfl) g8 (by omega)
                rw [HF.out]
                exact ⟨rfl, HI.out.holed _ (fun h hm => (List.mem_or_eq_of_mem_set hm).elim (fun q => HI.out.ok.holes h q) (fun q => q ▸ U.out)) (hb.cell 1) hS8 G, hOg G⟩
          · have hp : ∀ h ∈ m.holes, passB h va (ofI kind) = true := fun h q => hpass.out h (by rw [List.take_of_length_le (by omega)]; exact q)
            have HF := Lib.hid (HE.out.trans (holesI_all va (ofI kind) m.holes hp))
            have HB6 := Lib.hid (BK.out _ hBr)
            clear hp hpass HE a0 a1
            go_wp2_with (refine wpList_store_all rfl 36 (.tmp 4) (.tmp 72) rfl (w.heap.size + 1) (fltC ⟨0, 0, 0, 0⟩).toArray rfl rfl hZr rfl (by rw [fault_size]; rfl) rfl ?_; intro w8 B8 g8 _z8)
            refine ret_cell 4 36 (w.heap.size + 1) (fltC ⟨0, 0, 0, 0⟩) _ rfl rfl B8.range Try.underlying36 rfl (by rw [fault_size]; rfl) rfl ?_
            have G : GrownS w w8 (fun _ => False) := (GrownS.ofBelow HB6.out).new g8 (by omega)
            rw [HF.out]
            exact ⟨rfl, HI.out.keep G (fun _ _ q => q), grownS_mono G (fun _ q => q.elim)⟩
    · have e1 : R = (m.holes, ⟨0, 1, 0, 0⟩) := by rw [HR.out]; unfold faultI; rw [HO.out]; rfl
      have HF := Lib.hid e1
      clear e1 HR HO a0 a1
      go_wp2_with (refine wpList_store_all rfl 36 (.tmp 4) (.tmp 20) rfl (w.heap.size + 1) (fltC ⟨0, 1, 0, 0⟩).toArray rfl rfl hZ rfl (by rw [fault_size]; rfl) rfl ?_; intro w8 B8 g8 _z8)
      refine ret_cell 4 36 (w.heap.size + 1) (fltC ⟨0, 1, 0, 0⟩) _ rfl rfl B8.range Try.underlying36 rfl (by rw [fault_size]; rfl) rfl ?_
      have G : GrownS w w8 (fun _ => False) := (GrownS.ofBelow hB).new g8 (by omega)
      rw [HF.out]
      exact ⟨rfl, HI.out.keep G (fun _ _ q => q), grownS_mono G (fun _ q => q.elim)⟩
end Go.Proofs.Ytpfhplhamnohjaa
namespace Go.Proofs.Ytpfhplhamnohjaa
open Go.RowKit

theorem info_of {P : Program} {e : TypeId} {z : Value} {s b : Nat} (h : (P.info? e).map (fun i => (i.zero, i.size, i.bytes)) = some (some z, s, b)) : ∃ i, P.info? e = some i ∧ i.zero = some z ∧ i.size = s ∧ i.bytes = b := by
  cases hi : P.info? e with
  | none => rw [hi] at h; simp at h
  | some i =>
    rw [hi] at h
    simp only [Option.map_some, Option.some.injEq, Prod.mk.injEq] at h
    exact ⟨i, rfl, h.1, h.2.1, h.2.2⟩
theorem one_mem {cs : List Value} (h : cs.all (·.oneCell') = true) : ∀ y ∈ cs, y.oneCell' = true := fun y hy => List.all_eq_true.1 h y hy
theorem askC_one (q : Ask) : (askC q).all (·.oneCell') = true := rfl
theorem putC_one (q : Int × Int) : (putC q).all (·.oneCell') = true := rfl
theorem snoc_flat {α : Type} (f : α → List Value) (xs : List α) (q : α) : (xs ++ [q]).flatMap f = xs.flatMap f ++ f q := by simp
theorem add0 (b j : Nat) : (⟨b, 0, none⟩ : Addr).add j = ⟨b, j, none⟩ := by unfold Addr.add; split <;> simp_all
/-- append of one element onto a row that is owned -/
theorem wpList_append_el {α : Type} {f : α → List Value} {k b : Nat} {e : TypeId} {z : Value} (hk : ∀ x, (f x).length = k) (h0 : 0 < k) (hinfo : (Try.prog.info? e).map (fun i => (i.zero, i.size, i.bytes)) = some (some z, k, b)) (hz : z.cells.size = k) (h1 : ∀ x, (f x).all (·.oneCell') = true) (t : TypeId) (ht : Try.prog.underlying t = some (.slice e))
    {w : World} {ops : Array Oper} {rest : List Oper} {o : Oper} {a : Act} {Q : Exit → Act → World → Prop} (hgd : o.guard = none) (s x : Operand)
    (ho : o.op = .call { callee := .builtin .append, args := #[s, x], argTypes := #[t, t] }) (v : Value) (xs : List α) (hs : a.eval s = v) (hr : IsRow f k e w v xs) (q : α) (ad : Nat) (tq : TypeId) (hx : a.eval x = .slice (some ⟨ad, 0, none⟩) 1 1) (hq : Blok w ad tq (f q))
    (h63 : xs.length + 1 ≤ maxLen) (hb : ((xs.length + 1) + (xs.length + 1) / 4 + 192) * b ≤ 281474976710656)
    (h : ∀ g cap w', IsRow f k e w' (.slice (some ⟨g, 0, none⟩) (xs.length + 1) cap) (xs ++ [q]) → w.grownBy w' v.ownBlock → (v.ownBlock = some g ∨ g = w.heap.size) → wpList Try.prog ops Q rest (a.put o.dst (.slice (some ⟨g, 0, none⟩) (xs.length + 1) cap)) w') : wpList Try.prog ops Q (o :: rest) a w := by
  obtain ⟨i, hi, hz', hsz, hby⟩ := info_of hinfo
  refine wpList_append_row hgd s x t ho 0 e i z k b ht hi hz' hsz hby hz h0 v xs.length (xs.flatMap f) hs hr ⟨ad, 0, none⟩ 1 1 (by omega) (f q) hx (by rw [hk, Nat.one_mul]) (fun j y hy => by rw [add0, hq.cell]; exact hy) (one_mem (h1 q)) h63 hb (Nat.zero_le _) ?_
  intro g cap w' own gr at_ _
  refine h g cap w' ?_ gr at_
  unfold IsRow
  rw [snoc_flat, List.length_append]
  exact own
theorem wp_append_el {α : Type} {f : α → List Value} {k b : Nat} {e : TypeId} {z : Value} (hk : ∀ x, (f x).length = k) (h0 : 0 < k) (hinfo : (Try.prog.info? e).map (fun i => (i.zero, i.size, i.bytes)) = some (some z, k, b)) (hz : z.cells.size = k) (h1 : ∀ x, (f x).all (·.oneCell') = true) (t : TypeId) (ht : Try.prog.underlying t = some (.slice e))
    {w : World} {o : Oper} {a : Act} {K : Act → World → Prop} {Q : Exit → Act → World → Prop} (s x : Operand)
    (ho : o.op = .call { callee := .builtin .append, args := #[s, x], argTypes := #[t, t] }) (v : Value) (xs : List α) (hs : a.eval s = v) (hr : IsRow f k e w v xs) (q : α) (ad : Nat) (tq : TypeId) (hx : a.eval x = .slice (some ⟨ad, 0, none⟩) 1 1) (hq : Blok w ad tq (f q))
    (h63 : xs.length + 1 ≤ maxLen) (hb : ((xs.length + 1) + (xs.length + 1) / 4 + 192) * b ≤ 281474976710656)
    (h : ∀ g cap w', IsRow f k e w' (.slice (some ⟨g, 0, none⟩) (xs.length + 1) cap) (xs ++ [q]) → w.grownBy w' v.ownBlock → (v.ownBlock = some g ∨ g = w.heap.size) → K (a.put o.dst (.slice (some ⟨g, 0, none⟩) (xs.length + 1) cap)) w') : Oper.wp Try.prog o a w K Q := by
  obtain ⟨i, hi, hz', hsz, hby⟩ := info_of hinfo
  obtain ⟨g, cap, w', hrun, h2, h3, h4, h5⟩ := run_append_row (P := Try.prog) w 0 t o.type e i z k b ht hi hz' hsz hby hz h0 v xs.length (xs.flatMap f) hr ⟨ad, 0, none⟩ 1 1 (by omega) (f q) (by rw [hk, Nat.one_mul]) (fun j y hy => by rw [add0, hq.cell]; exact hy) (one_mem (h1 q)) h63 hb (Nat.zero_le _)
  unfold Oper.wp execOp
  simp only [ho, resolve, invoke, builtin, Sem.run_bind, Sem.run_pure, Result.andThen_ok, List.map_toArray, List.map_cons, List.map_nil, hs, hx, hrun]
  refine h g cap w' ?_ h3 h4
  unfold IsRow
  rw [snoc_flat, List.length_append]
  exact h2
theorem gsOwn {w w' : World} {v : Value} (h : w.grownBy w' v.ownBlock) : GrownS w w' (fun j => v.ownBlock = some j) := ⟨h.os, h.tape, h.output, h.size, fun i hi hn => h.block i hi (fun e => hn e.symm)⟩
theorem line_ask {g : Nat} {m : LineM} {O : Nat → Prop} {w : World} (h : IsLine g m O w) (hroom : 0 < m.room) (q : Ask) (cop : Int) (hcop : 0 ≤ cop ∧ cop < 4294967296) :
    ∃ vp vh va, Blok w g 48 [vp, vh, va, .int .u32 m.cop] ∧ va.ownBlock ≠ some g ∧ IsRow askC 12 54 w va m.asked ∧ ∀ w2 w3 w4 g' cap, Below w.heap.size w w2 → IsRow askC 12 54 w3 (.slice (some ⟨g', 0, none⟩) (m.asked.length + 1) cap) (m.asked ++ [q]) → w2.grownBy w3 va.ownBlock → (va.ownBlock = some g' ∨ g' = w2.heap.size) →
      (w4 = w3.setCell ⟨g, 2, none⟩ (.slice (some ⟨g', 0, none⟩) (m.asked.length + 1) cap) ∧ cop = m.cop ∨ w4 = (w3.setCell ⟨g, 2, none⟩ (.slice (some ⟨g', 0, none⟩) (m.asked.length + 1) cap)).setCell ⟨g, 3, none⟩ (.int .u32 cop)) →
      ∃ O', IsLine g { m with asked := m.asked ++ [q], cop := cop, room := m.room - 1 } O' w4 ∧ GrownS w w4 O ∧ (∀ j, O' j → O j ∨ w2.heap.size ≤ j) ∧ ∀ j, w.heap.size ≤ j → j < w2.heap.size → w4.heap[j]? = w2.heap[j]? := by
  obtain ⟨vp, vh, va, hb, h1, h2, h3, hO, np, nh, na, d1, d2⟩ := h.ex
  refine ⟨vp, vh, va, hb, na, h3, fun w2 w3 w4 g' cap b2 row gr hat hw4 => ?_⟩
  have hlt := hb.lt
  have hb3 := (hb.below b2 hlt).grown gr (fun e => na e.symm)
  have hva : ∀ j, va.ownBlock = some j → j < w.heap.size := h3.lt
  have gg : g' ≠ g := fun e => by
    rcases hat with q | q
    · exact na (e ▸ q)
    · have := b2.size; omega
  have far : ∀ j, j ≠ g → w4.heap[j]? = w3.heap[j]? := fun j hj => by
    rcases hw4 with ⟨rfl, _⟩ | rfl
    · exact Below.heap_setCell _ _ _ j hj
    · exact (Below.heap_setCell _ _ _ j hj).trans (Below.heap_setCell _ _ _ j hj)
  have sz : w4.heap.size = w3.heap.size := by rcases hw4 with ⟨rfl, _⟩ | rfl <;> simp [World.setCell]
  have gr4 : w3.grownBy w4 (some g) := by
    rcases hw4 with ⟨rfl, _⟩ | rfl
    · exact grown_one _ _ _ _
    · exact gtrans (grown_one _ _ _ _) (grown_one _ _ _ _)
  have hb4 : Blok w4 g 48 [vp, vh, .slice (some ⟨g', 0, none⟩) (m.asked.length + 1) cap, .int .u32 cop] := by
    rcases hw4 with ⟨rfl, rfl⟩ | rfl
    · exact hb3.set_ 2 _
    · exact (hb3.set_ 2 _).set_ 3 _
  have keep : ∀ j, j < w.heap.size → va.ownBlock ≠ some j → j ≠ g → w4.heap[j]? = w.heap[j]? := fun j hj hne hg => (far j hg).trans ((gr.block j (Nat.lt_of_lt_of_le hj b2.size) (fun e => hne e.symm)).trans (b2.block j hj))
  have fresh : ∀ j, vp.ownBlock = some j ∨ vh.ownBlock = some j → g' ≠ j := fun j hj e => by
    rcases hat with q | q
    · rcases hj with r | r
      · exact (d1 j r).2 (e ▸ q)
      · exact d2 j r (e ▸ q)
    · have l : j < w.heap.size := by rcases hj with r | r; exact h1.lt j r; exact h2.lt j r
      have := b2.size; omega
  refine ⟨fun j => j = g ∨ vp.ownBlock = some j ∨ vh.ownBlock = some j ∨ j = g', ⟨⟨h.ok.puts, h.ok.holes, hcop, ?_, ?_⟩, vp, vh, .slice (some ⟨g', 0, none⟩) (m.asked.length + 1) cap, hb4, h1.same (fun j q => keep j (h1.lt j q) (d1 j q).2 (fun e => np (e ▸ q))), h2.same (fun j q => keep j (h2.lt j q) (d2 j q) (fun e => nh (e ▸ q))), ?_, ?_, np, nh, ?_, ?_, ?_⟩, ?_, ?_, ?_⟩
  · have := h.ok.asks; simp only [List.length_append, List.length_cons, List.length_nil]; omega
  · have := h.ok.putn; dsimp only; omega
  · have r4 := row.same (w' := w4) (fun j q => far j (fun e => gg (by have := Option.some.inj (show some g' = some j from q); omega)))
    exact r4
  · intro j
    simp only [Value.ownBlock, Option.some.injEq]
    constructor
    · rintro (a | a | a | a) <;> simp [a]
    · rintro (a | a | a | a) <;> simp [a]
  · simp only [Value.ownBlock, ne_eq, Option.some.injEq]; exact gg
  · intro j q
    refine ⟨(d1 j q).1, ?_⟩
    simp only [Value.ownBlock, ne_eq, Option.some.injEq]
    exact fresh j (Or.inl q)
  · intro j q
    simp only [Value.ownBlock, ne_eq, Option.some.injEq]
    exact fresh j (Or.inr q)
  · refine ⟨gr4.os.trans (gr.os.trans b2.os), gr4.tape.trans (gr.tape.trans b2.tape), gr4.output.trans (gr.output.trans b2.output), Nat.le_trans b2.size (Nat.le_trans gr.size gr4.size), fun j hj hn => keep j hj (fun q => hn ((hO j).2 (Or.inr (Or.inr (Or.inr q))))) (fun e => hn ((hO j).2 (Or.inl e)))⟩
  · rintro j (a | a | a | a)
    · exact Or.inl ((hO j).2 (Or.inl a))
    · exact Or.inl ((hO j).2 (Or.inr (Or.inl a)))
    · exact Or.inl ((hO j).2 (Or.inr (Or.inr (Or.inl a))))
    · rcases hat with q | q
      · exact Or.inl ((hO j).2 (Or.inr (Or.inr (Or.inr (a ▸ q)))))
      · exact Or.inr (by omega)
  · intro j hj hj2
    exact (far j (by omega)).trans (gr.block j hj2 (fun e => by have := hva j e.symm; omega))
theorem line_cop {g : Nat} {m : LineM} {O : Nat → Prop} {w : World} (h : IsLine g m O w) (v : Int) (hv : 0 ≤ v ∧ v < 4294967296) : IsLine g { m with cop := v } O (w.setCell ⟨g, 3, none⟩ (.int .u32 v)) ∧ GrownS w (w.setCell ⟨g, 3, none⟩ (.int .u32 v)) O := by
  obtain ⟨vp, vh, va, hb, h1, h2, h3, hO, np, nh, na, rest⟩ := h.ex
  have far : ∀ j, j ≠ g → (w.setCell ⟨g, 3, none⟩ (.int .u32 v)).heap[j]? = w.heap[j]? := fun j hj => Below.heap_setCell _ _ _ j hj
  exact ⟨⟨⟨h.ok.puts, h.ok.holes, hv, h.ok.asks, h.ok.putn⟩, vp, vh, va, hb.set_ 3 _, h1.same (fun j q => far j (fun e => np (e ▸ q))), h2.same (fun j q => far j (fun e => nh (e ▸ q))), h3.same (fun j q => far j (fun e => na (e ▸ q))), hO, np, nh, na, rest⟩, GrownS.ofOne (grown_one _ _ _ _) ((hO g).2 (Or.inl rfl))⟩
theorem line_put {g : Nat} {m : LineM} {O : Nat → Prop} {w : World} (h : IsLine g m O w) (hroom : m.puts.length + 1 + m.room ≤ 18691697672192) (q : Int × Int) (hq : (0 ≤ q.1 ∧ q.1 < 4294967296) ∧ (0 ≤ q.2 ∧ q.2 < 4294967296)) :
    ∃ vp vh va, Blok w g 48 [vp, vh, va, .int .u32 m.cop] ∧ vp.ownBlock ≠ some g ∧ IsRow putC 2 69 w vp m.puts ∧ ∀ w2 w3 w4 g' cap, Below w.heap.size w w2 → IsRow putC 2 69 w3 (.slice (some ⟨g', 0, none⟩) (m.puts.length + 1) cap) (m.puts ++ [q]) → w2.grownBy w3 vp.ownBlock → (vp.ownBlock = some g' ∨ g' = w2.heap.size) →
      w4 = w3.setCell ⟨g, 0, none⟩ (.slice (some ⟨g', 0, none⟩) (m.puts.length + 1) cap) →
      ∃ O', IsLine g { m with puts := m.puts ++ [q] } O' w4 ∧ GrownS w w4 O ∧ (∀ j, O' j → O j ∨ w2.heap.size ≤ j) ∧ ∀ j, w.heap.size ≤ j → j < w2.heap.size → w4.heap[j]? = w2.heap[j]? := by
  obtain ⟨vp, vh, va, hb, h1, h2, h3, hO, np, nh, na, d1, d2⟩ := h.ex
  refine ⟨vp, vh, va, hb, np, h1, fun w2 w3 w4 g' cap b2 row gr hat hw4 => ?_⟩
  subst hw4
  have hlt := hb.lt
  have hb3 := (hb.below b2 hlt).grown gr (fun e => np e.symm)
  have gg : g' ≠ g := fun e => by
    rcases hat with q | q
    · exact np (e ▸ q)
    · have := b2.size; omega
  have far : ∀ j, j ≠ g → (w3.setCell ⟨g, 0, none⟩ (.slice (some ⟨g', 0, none⟩) (m.puts.length + 1) cap)).heap[j]? = w3.heap[j]? := fun j hj => Below.heap_setCell _ _ _ j hj
  have gr4 := grown_one w3 g 0 (.slice (some ⟨g', 0, none⟩) (m.puts.length + 1) cap)
  have keep : ∀ j, j < w.heap.size → vp.ownBlock ≠ some j → j ≠ g → (w3.setCell ⟨g, 0, none⟩ (.slice (some ⟨g', 0, none⟩) (m.puts.length + 1) cap)).heap[j]? = w.heap[j]? := fun j hj hne hg => (far j hg).trans ((gr.block j (Nat.lt_of_lt_of_le hj b2.size) (fun e => hne e.symm)).trans (b2.block j hj))
  have fresh : ∀ j, vh.ownBlock = some j ∨ va.ownBlock = some j → g' ≠ j := fun j hj e => by
    rcases hat with q | q
    · rcases hj with r | r
      · exact (d1 g' q).1 (e ▸ r)
      · exact (d1 g' q).2 (e ▸ r)
    · have l : j < w.heap.size := by rcases hj with r | r; exact h2.lt j r; exact h3.lt j r
      have := b2.size; omega
  refine ⟨fun j => j = g ∨ j = g' ∨ vh.ownBlock = some j ∨ va.ownBlock = some j, ⟨⟨fun p hp => ?_, h.ok.holes, h.ok.cop, h.ok.asks, ?_⟩, .slice (some ⟨g', 0, none⟩) (m.puts.length + 1) cap, vh, va, hb3.set_ 0 _, row.same (fun j q => far j (fun e => gg (by have := Option.some.inj (show some g' = some j from q); omega))), h2.same (fun j q => keep j (h2.lt j q) (fun r => (d1 j r).1 q) (fun e => nh (e ▸ q))), h3.same (fun j q => keep j (h3.lt j q) (fun r => (d1 j r).2 q) (fun e => na (e ▸ q))), ?_, ?_, nh, na, ?_, d2⟩, ?_, ?_, ?_⟩
  · rcases List.mem_append.1 hp with r | r
    · exact h.ok.puts p r
    · rw [List.mem_singleton.1 r]; exact hq
  · simp only [List.length_append, List.length_cons, List.length_nil]; omega
  · intro j
    simp only [Value.ownBlock, Option.some.injEq]
    constructor
    · rintro (a | a | a | a) <;> simp [a]
    · rintro (a | a | a | a) <;> simp [a]
  · simp only [Value.ownBlock, ne_eq, Option.some.injEq]; exact gg
  · intro j q
    simp only [Value.ownBlock, Option.some.injEq] at q
    exact ⟨fun r => fresh j (Or.inl r) q, fun r => fresh j (Or.inr r) q⟩
  · refine ⟨gr4.os.trans (gr.os.trans b2.os), gr4.tape.trans (gr.tape.trans b2.tape), gr4.output.trans (gr.output.trans b2.output), Nat.le_trans b2.size (Nat.le_trans gr.size gr4.size), fun j hj hn => keep j hj (fun q => hn ((hO j).2 (Or.inr (Or.inl q)))) (fun e => hn ((hO j).2 (Or.inl e)))⟩
  · rintro j (a | a | a | a)
    · exact Or.inl ((hO j).2 (Or.inl a))
    · rcases hat with q | q
      · exact Or.inl ((hO j).2 (Or.inr (Or.inl (a ▸ q))))
      · exact Or.inr (by omega)
    · exact Or.inl ((hO j).2 (Or.inr (Or.inr (Or.inl a))))
    · exact Or.inl ((hO j).2 (Or.inr (Or.inr (Or.inr a))))
  · intro j hj hj2
    exact (far j (by omega)).trans (gr.block j hj2 (fun e => by have := h1.lt j e.symm; omega))
end Go.Proofs.Ytpfhplhamnohjaa
