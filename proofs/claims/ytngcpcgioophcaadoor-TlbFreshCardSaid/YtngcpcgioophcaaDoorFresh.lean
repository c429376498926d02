/- The walk of the law TlbFresh: for every number of places and script the places that are told are new memory. -/
import Derived.Test.YtngcpcgioophcaaDoorMatches
import Derived.Deep.AppendLies
namespace Go.Proofs.YtngcpcgioophcaaDoor
open Go.RowKit

/-- append onto a slice without spare room: a new row -/
theorem wpList_append_full {P : Program} {w : World} {ops : Array Oper} {rest : List Oper} {o : Oper} {a : Act} {Q : Exit → Act → World → Prop} (hgd : o.guard = none) (s x : Operand) (t : TypeId)
    (ho : o.op = .call { callee := .builtin .append, args := #[s, x], argTypes := #[t, t] })
    (e : TypeId) (i : TypeInfo) (z : Value) (size bytes : Nat) (ht : P.underlying t = some (.slice e)) (hi : P.info? e = some i) (hz : i.zero = some z)
    (hsize : i.size = size) (hby : i.bytes = bytes) (hzs : z.cells.size = size)
    (g n : Nat) (xs : List Value) (hlo : xs.length = n * size) (holds : ∀ j v, xs[j]? = some v → w.cell? ((⟨g, 0, none⟩ : Addr).add j) = some v) (hs : a.eval s = .slice (some ⟨g, 0, none⟩) n n)
    (ad : Addr) (m c : Nat) (news : List Value) (hx : a.eval x = .slice (some ad) m c) (hl : news.length = m * size) (hnews : ∀ j u, news[j]? = some u → w.cell? (ad.add j) = some u)
    (hm : 0 < m) (hs1 : n + m ≤ 1000) (hb1 : bytes ≤ 1000)
    (h : ∀ cap w', (∀ j u, (xs ++ news)[j]? = some u → w'.cell? ⟨w.heap.size, j, none⟩ = some u) → Below w.heap.size w w' → w'.heap.size = w.heap.size + 1 → wpList P ops Q rest (a.put o.dst (.slice (some ⟨w.heap.size, 0, none⟩) (n + m) cap)) w') : wpList P ops Q (o :: rest) a w := by
  subst hsize
  subst hby
  have hfit : Builtin.nextslicecap (n + m) n * i.bytes ≤ 281474976710656 := growslice_fits (by omega) (by
    have : (n + m) * i.bytes ≤ 1000 * 1000 := Nat.mul_le_mul hs1 hb1
    omega)
  have hr := run_append_grow (P := P) w t o.type e i z ht hi hz ⟨g, 0, none⟩ n n xs hlo holds ad m c news hl hnews (by omega) (by omega) hfit
  refine wpList_plain hgd fun K hK => ?_
  unfold Oper.wp execOp
  simp only [ho, resolve, invoke, builtin, Sem.run_bind, Sem.run_pure, Result.andThen_ok, List.map_toArray, List.map_cons, List.map_nil, hs, hx, hr]
  refine hK _ _ (h _ _ ?_ ?_ ?_)
  · intro j u hj
    rw [cell_of_row _ w.heap.size j _ _ _ (heap_alloc_new w.drew _)]
    have hlt := (List.getElem?_eq_some_iff.1 hj).1
    rw [Array.getElem?_append_left (by simpa using hlt)]
    simpa using hj
  · exact (bdrew (Below.refl _ _)).alloc (Nat.le_refl _) _
  · simp
/-- a row of places at the head of a block -/
def RowF (w : World) (g : Nat) (xs : List Slot) : Prop := g < w.heap.size ∧ ∀ j v, (rowCells xs)[j]? = some v → w.cell? ⟨g, j, none⟩ = some v
theorem RowF.below {w w' : World} {g : Nat} {xs : List Slot} (h : RowF w g xs) (hb : Below w.heap.size w w') : RowF w' g xs := ⟨Nat.lt_of_lt_of_le h.1 hb.size, fun j v hv => (hb.cell h.1).trans (h.2 j v hv)⟩
theorem RowF.far {w w' : World} {g r : Nat} {xs : List Slot} (h : RowF w g xs) (hg : w.grownBy w' (some r)) (hr : g ≠ r) : RowF w' g xs := ⟨Nat.lt_of_lt_of_le h.1 hg.size, fun j v hv => (World.cell?_of_block (hg.block g h.1 (fun e => hr (Option.some.inj e)))).trans (h.2 j v hv)⟩
theorem RowF.of {w : World} {g : Nat} {t : TypeId} {xs : List Slot} (h : Blok w g t (rowCells xs)) : RowF w g xs := ⟨h.lt, fun j v hv => by rw [h.cell]; exact hv⟩
theorem RowF.cells {w : World} {g : Nat} {xs : List Slot} (h : RowF w g xs) (i : Nat) (s : Slot) (hs : xs[i]? = some s) (j : Nat) (hj : j < 10) : w.cell? ⟨g, i * 10 + j, none⟩ = (slotCells s)[j]? := by
  have e := rowCells_at xs i j s hs hj
  have hl : j < (slotCells s).length := by rw [slotCells_len]; exact hj
  rw [List.getElem?_eq_getElem hl] at e ⊢
  exact h.2 _ _ e
theorem RowF.owns {w : World} {B g n cap : Nat} {xs : List Slot} (h : w.ownsRow B 50 10 (.slice (some ⟨g, 0, none⟩) n cap) n (rowCells xs)) (hn : 0 < n) : RowF w g xs := by
  obtain ⟨hl, h⟩ := h
  rcases h with ⟨_, h0⟩ | ⟨g', cap', cur, hv, _, hg, _, _, _, ht⟩
  · omega
  · simp only [Value.slice.injEq, Option.some.injEq, Addr.mk.injEq] at hv
    obtain ⟨⟨rfl, _⟩, _⟩ := hv
    refine ⟨?_, fun j v hv => ?_⟩
    · rcases Nat.lt_or_ge g w.heap.size with hlt | hge
      · exact hlt
      · rw [Array.getElem?_eq_none hge] at hg; cases hg
    · rw [cell_of_row w g j cur _ _ hg]
      rw [← ht] at hv
      rw [List.getElem?_take] at hv
      split at hv
      · simpa using hv
      · cases hv
theorem neq_selfF (b : Blk) (w : World) : (binOp .neq 29 (.agg #[.int .i64 b.asid, .int .i64 b.size, .int .u32 b.va, .int .u64 b.pa, .int .i64 b.dom, .int .i64 b.ap, .int .u32 b.bits, .bool b.ng, .bool b.xn]) (.agg #[.int .i64 b.asid, .int .i64 b.size, .int .u32 b.va, .int .u64 b.pa, .int .i64 b.dom, .int .i64 b.ap, .int .u32 b.bits, .bool b.ng, .bool b.xn])).run Tryd.prog w = .ok (.bool false) w := by
  rw [run_neq_struct, eqIn_blk 9995, eqB_self]; rfl
set_option maxHeartbeats 3200000 in
theorem sameSlots_at (ga gb ca cb : Nat) (xs : List Slot) (hl2 : xs.length ≤ 64) (w : World) (ha : RowF w ga xs) (hb : RowF w gb xs) :
    Calls Tryd.prog 29 #[.slice (some ⟨ga, 0, none⟩) xs.length ca, .slice (some ⟨gb, 0, none⟩) xs.length cb] w fun e w' => e = .returned (.bool true) ∧ Below w.heap.size w w' := by
  go_enter Tryd.func29, Tryd.ntmps29
  go_wp2
  go_loopw [5] (fun v5 wr => ∃ k : Nat, k ≤ xs.length ∧ v5 = .int .i64 k ∧ Below w.heap.size w wr) (fun v5 _ => xs.length - (intOf v5).toNat)
  case atStart => exact ⟨0, Nat.zero_le _, rfl, Below.refl _ _⟩
  case round =>
    obtain ⟨k, hk, rfl, hB⟩ := hrel
    have hra := ha.below hB
    have hrb := hb.below hB
    by_cases hlt : k < xs.length
    · obtain ⟨s, hsk⟩ : ∃ s, xs[k]? = some s := ⟨_, List.getElem?_eq_getElem hlt⟩
      obtain ⟨full, b⟩ := s
      have hca := fun j (hj : j < 10) => hra.cells k _ hsk j hj
      have hcb := fun j (hj : j < 10) => hrb.cells k _ hsk j hj
      have hne := neq_selfF b
      clear hsk
      cases full
      · (have d0 : (wr).cell? ⟨ga, k * 10, none⟩ = some (.bool false) := hca 0 (by omega); have d1 : (wr).cell? ⟨ga, k * 10 + 1, none⟩ = some (.int .i64 b.asid) := hca 1 (by omega); have d2 : (wr).cell? ⟨ga, k * 10 + 2, none⟩ = some (.int .i64 b.size) := hca 2 (by omega); have d3 : (wr).cell? ⟨ga, k * 10 + 3, none⟩ = some (.int .u32 b.va) := hca 3 (by omega); have d4 : (wr).cell? ⟨ga, k * 10 + 4, none⟩ = some (.int .u64 b.pa) := hca 4 (by omega); have d5 : (wr).cell? ⟨ga, k * 10 + 5, none⟩ = some (.int .i64 b.dom) := hca 5 (by omega); have d6 : (wr).cell? ⟨ga, k * 10 + 6, none⟩ = some (.int .i64 b.ap) := hca 6 (by omega); have d7 : (wr).cell? ⟨ga, k * 10 + 7, none⟩ = some (.int .u32 b.bits) := hca 7 (by omega); have d8 : (wr).cell? ⟨ga, k * 10 + 8, none⟩ = some (.bool b.ng) := hca 8 (by omega); have d9 : (wr).cell? ⟨ga, k * 10 + 9, none⟩ = some (.bool b.xn) := hca 9 (by omega))
        (have e0 : (wr).cell? ⟨gb, k * 10, none⟩ = some (.bool false) := hcb 0 (by omega); have e1 : (wr).cell? ⟨gb, k * 10 + 1, none⟩ = some (.int .i64 b.asid) := hcb 1 (by omega); have e2 : (wr).cell? ⟨gb, k * 10 + 2, none⟩ = some (.int .i64 b.size) := hcb 2 (by omega); have e3 : (wr).cell? ⟨gb, k * 10 + 3, none⟩ = some (.int .u32 b.va) := hcb 3 (by omega); have e4 : (wr).cell? ⟨gb, k * 10 + 4, none⟩ = some (.int .u64 b.pa) := hcb 4 (by omega); have e5 : (wr).cell? ⟨gb, k * 10 + 5, none⟩ = some (.int .i64 b.dom) := hcb 5 (by omega); have e6 : (wr).cell? ⟨gb, k * 10 + 6, none⟩ = some (.int .i64 b.ap) := hcb 6 (by omega); have e7 : (wr).cell? ⟨gb, k * 10 + 7, none⟩ = some (.int .u32 b.bits) := hcb 7 (by omega); have e8 : (wr).cell? ⟨gb, k * 10 + 8, none⟩ = some (.bool b.ng) := hcb 8 (by omega); have e9 : (wr).cell? ⟨gb, k * 10 + 9, none⟩ = some (.bool b.xn) := hcb 9 (by omega))
        clear hca hcb
        go_wp2_with fail
        go_quiet (fail)
        go_wp2
        go_roundw
        case rel => exact ⟨k + 1, by omega, by go_num, bdrewN hB _⟩
        case measure => simp [intOf]; omega
      · (have d0 : (wr).cell? ⟨ga, k * 10, none⟩ = some (.bool true) := hca 0 (by omega); have d1 : (wr).cell? ⟨ga, k * 10 + 1, none⟩ = some (.int .i64 b.asid) := hca 1 (by omega); have d2 : (wr).cell? ⟨ga, k * 10 + 2, none⟩ = some (.int .i64 b.size) := hca 2 (by omega); have d3 : (wr).cell? ⟨ga, k * 10 + 3, none⟩ = some (.int .u32 b.va) := hca 3 (by omega); have d4 : (wr).cell? ⟨ga, k * 10 + 4, none⟩ = some (.int .u64 b.pa) := hca 4 (by omega); have d5 : (wr).cell? ⟨ga, k * 10 + 5, none⟩ = some (.int .i64 b.dom) := hca 5 (by omega); have d6 : (wr).cell? ⟨ga, k * 10 + 6, none⟩ = some (.int .i64 b.ap) := hca 6 (by omega); have d7 : (wr).cell? ⟨ga, k * 10 + 7, none⟩ = some (.int .u32 b.bits) := hca 7 (by omega); have d8 : (wr).cell? ⟨ga, k * 10 + 8, none⟩ = some (.bool b.ng) := hca 8 (by omega); have d9 : (wr).cell? ⟨ga, k * 10 + 9, none⟩ = some (.bool b.xn) := hca 9 (by omega))
        (have e0 : (wr).cell? ⟨gb, k * 10, none⟩ = some (.bool true) := hcb 0 (by omega); have e1 : (wr).cell? ⟨gb, k * 10 + 1, none⟩ = some (.int .i64 b.asid) := hcb 1 (by omega); have e2 : (wr).cell? ⟨gb, k * 10 + 2, none⟩ = some (.int .i64 b.size) := hcb 2 (by omega); have e3 : (wr).cell? ⟨gb, k * 10 + 3, none⟩ = some (.int .u32 b.va) := hcb 3 (by omega); have e4 : (wr).cell? ⟨gb, k * 10 + 4, none⟩ = some (.int .u64 b.pa) := hcb 4 (by omega); have e5 : (wr).cell? ⟨gb, k * 10 + 5, none⟩ = some (.int .i64 b.dom) := hcb 5 (by omega); have e6 : (wr).cell? ⟨gb, k * 10 + 6, none⟩ = some (.int .i64 b.ap) := hcb 6 (by omega); have e7 : (wr).cell? ⟨gb, k * 10 + 7, none⟩ = some (.int .u32 b.bits) := hcb 7 (by omega); have e8 : (wr).cell? ⟨gb, k * 10 + 8, none⟩ = some (.bool b.ng) := hcb 8 (by omega); have e9 : (wr).cell? ⟨gb, k * 10 + 9, none⟩ = some (.bool b.xn) := hcb 9 (by omega))
        clear hca hcb
        go_wp2_with fail
        go_quiet (fail)
        go_wp2
        go_roundw
        case rel => exact ⟨k + 1, by omega, by go_num, bdrewN hB _⟩
        case measure => simp [intOf]; omega
    · go_wp2
      go_ret
      exact ⟨rfl, hB⟩
def markB (k : Int) : Blk := ⟨k, 1, 0, 20480, 1, 3, 14, true, false⟩
def mark (k : Int) : Slot := ⟨true, markB k⟩
set_option maxHeartbeats 1600000 in
theorem small_at (k : Int) (w : World) :
    Calls Tryd.prog 30 #[.int .u32 0, .int .i64 k] w fun e w' => e = .returned (.agg #[.int .i64 k, .int .i64 1, .int .u32 0, .int .u64 20480, .int .i64 1, .int .i64 3, .int .u32 14, .bool true, .bool false]) ∧ Below w.heap.size w w' := by
  go_enter Tryd.func30, Tryd.ntmps30
  go_wp2
  exact bodyPost_ret (v := .agg #[.int .i64 k, .int .i64 1, .int .u32 0, .int .u64 20480, .int .i64 1, .int .i64 3, .int .u32 14, .bool true, .bool false]) (by simp [results, Tryd.results30, go_sem]) rfl ⟨rfl, (Below.refl _ _).alloc (Nat.le_refl _) _⟩
/-- the first i places are marks -/
def mixTo (s : Slot) (i : Nat) (xs : List Slot) : List Slot := List.replicate i s ++ xs.drop i
theorem mixTo_zero (s : Slot) (xs : List Slot) : mixTo s 0 xs = xs := rfl
theorem mixTo_len (s : Slot) (i : Nat) (xs : List Slot) (h : i ≤ xs.length) : (mixTo s i xs).length = xs.length := by simp [mixTo]; omega
theorem mixTo_next (s : Slot) (i : Nat) (xs : List Slot) (h : i < xs.length) : mixTo s (i + 1) xs = (mixTo s i xs).set i s := by
  unfold mixTo
  rw [List.set_append_right _ _ (by simp), List.drop_eq_getElem_cons h]
  have : i - (List.replicate i s).length = 0 := by simp
  rw [this, List.set_cons_zero]
  simp [List.replicate_succ', List.append_assoc]
theorem mixTo_all (s : Slot) (xs : List Slot) : mixTo s xs.length xs = List.replicate xs.length s := by simp [mixTo]
theorem oneCell_row (xs : List Slot) : ∀ v ∈ rowCells xs, v.oneCell' = true := fun v hv => by
  obtain ⟨s, _, hs⟩ := List.mem_flatMap.1 hv
  simp only [slotCells, List.mem_cons, List.not_mem_nil, or_false] at hs
  rcases hs with rfl | rfl | rfl | rfl | rfl | rfl | rfl | rfl | rfl | rfl <;> rfl
theorem rowCells_snoc (xs : List Slot) (s : Slot) : rowCells (xs ++ [s]) = rowCells xs ++ slotCells s := by simp [rowCells]
theorem rowCells_snoc' {xs : List Slot} {s : Slot} : rowCells (xs ++ [s]) = rowCells xs ++ slotCells s := rowCells_snoc xs s
theorem add_at {w : World} {g : Nat} {cs : List Value} (h : ∀ j u, cs[j]? = some u → w.cell? ⟨g, j, none⟩ = some u) : ∀ j u, cs[j]? = some u → w.cell? ((⟨g, 0, none⟩ : Addr).add j) = some u := fun j u hu => by
  have hadd : (⟨g, 0, none⟩ : Addr).add j = ⟨g, j, none⟩ := by unfold Addr.add; split <;> simp_all
  rw [hadd]; exact h j u hu
set_option maxHeartbeats 12800000 in
set_option maxRecDepth 100000 in
theorem fresh_walk (pl : Int) (p : Option Addr) (cap : Nat) (os : List Op10) (hos : ∀ o ∈ os, o.Ok) (hmax : os.length ≤ maxLen) (w : World) (hs : Shf w) (hO : OpsIn w.heap.size w p os) :
    Calls Tryd.prog 7 #[.int .i64 pl, .slice p os.length cap] w fun e w' => e = .returned (.bool true) ∧ Below w.heap.size w w' := by
  have hml : os.length < 9223372036854775808 := Nat.lt_of_le_of_lt hmax (by decide)
  clear hmax
  obtain ⟨n, hn⟩ : ∃ n, pressN pl = n := ⟨_, rfl⟩
  have hn8 := pressN_pos pl
  have PR := Lib.hid (pressed_is pl w)
  rw [hn] at hn8 PR
  have hg0 : w.heap.size ≠ 0 := by have := hs.pos; omega
  clear hn
  go_enter Tryd.func7, Tryd.ntmps7
  go_wp2_with (first
    | (go_at_call 24; refine PR.out.mono ?_; rintro e w1 ⟨rfl, hT1, hb1⟩; have hs1 := hs.below hs.pos hb1)
    | (go_at_call 17; refine (live_is _ hs1).mono ?_; rintro e w2 ⟨rfl, hb2⟩; have hT2 := hT1.below hb2; have hs2 := hs1.below hs1.pos hb2; have hB2 := bthen hb1 hb2))
  go_loopw [7] (fun v7 wr => ∃ k : Nat, k ≤ os.length ∧ v7 = .int .i64 k ∧ IsTlb wr 105 50 (w.heap.size + 1) w.heap.size (opsRow (os.take k) (newRow n)) ∧ Shf wr ∧ Below w.heap.size w wr) (fun v7 _ => os.length - (intOf v7).toNat)
  case atStart => exact ⟨0, Nat.zero_le _, rfl, hT2, hs2, hB2⟩
  case round =>
    clear hT2 hs2 hB2 hb1 hb2 hT1 hs1 PR
    obtain ⟨k, hk, rfl, hT, hsr, hB⟩ := hrel
    by_cases hlt : k < os.length
    · obtain ⟨o, hok⟩ : ∃ o, os[k]? = some o := ⟨_, List.getElem?_eq_getElem hlt⟩
      obtain ⟨b, k0, hp, hb, hc⟩ := (hO.below hB) k o hok
      subst hp
      (have d0 : (wr).cell? ⟨b, k0 + k * 15, none⟩ = some (.int .i64 o.kind) := hc 0 _ rfl; have d1 : (wr).cell? ⟨b, k0 + k * 15 + 1, none⟩ = some (.int .u32 o.va) := hc 1 _ rfl; have d2 : (wr).cell? ⟨b, k0 + k * 15 + 2, none⟩ = some (.int .i64 o.n) := hc 2 _ rfl; have d3 : (wr).cell? ⟨b, k0 + k * 15 + 3, none⟩ = some (.int .i64 o.blk.asid) := hc 3 _ rfl; have d4 : (wr).cell? ⟨b, k0 + k * 15 + 4, none⟩ = some (.int .i64 o.blk.size) := hc 4 _ rfl; have d5 : (wr).cell? ⟨b, k0 + k * 15 + 5, none⟩ = some (.int .u32 o.blk.va) := hc 5 _ rfl; have d6 : (wr).cell? ⟨b, k0 + k * 15 + 6, none⟩ = some (.int .u64 o.blk.pa) := hc 6 _ rfl; have d7 : (wr).cell? ⟨b, k0 + k * 15 + 7, none⟩ = some (.int .i64 o.blk.dom) := hc 7 _ rfl; have d8 : (wr).cell? ⟨b, k0 + k * 15 + 8, none⟩ = some (.int .i64 o.blk.ap) := hc 8 _ rfl; have d9 : (wr).cell? ⟨b, k0 + k * 15 + 9, none⟩ = some (.int .u32 o.blk.bits) := hc 9 _ rfl; have d10 : (wr).cell? ⟨b, k0 + k * 15 + 10, none⟩ = some (.bool o.blk.ng) := hc 10 _ rfl; have d11 : (wr).cell? ⟨b, k0 + k * 15 + 11, none⟩ = some (.bool o.blk.xn) := hc 11 _ rfl; have d12 : (wr).cell? ⟨b, k0 + k * 15 + 12, none⟩ = some (.int .i64 o.drop.kind) := hc 12 _ rfl; have d13 : (wr).cell? ⟨b, k0 + k * 15 + 13, none⟩ = some (.int .u32 o.drop.va) := hc 13 _ rfl; have d14 : (wr).cell? ⟨b, k0 + k * 15 + 14, none⟩ = some (.int .i64 o.drop.asid) := hc 14 _ rfl)
      have hoo := hos o (List.mem_of_getElem? hok)
      have hrow := opsRow_ok (os.take k) (fun o ho => hos o (List.mem_of_mem_take ho)) _ (newRow_ok n)
      have DO := Lib.hid (does_is o hoo (w.heap.size + 1) w.heap.size _ hrow hg0 wr hsr hT)
      have HK := Lib.hid (take_snocO os k o hok)
      clear hc hok hrow
      go_wp2_with (go_at_call 26; refine DO.out.mono ?_; rintro e w3 ⟨rfl, hT3, hg3⟩)
      go_roundw
      case rel => exact ⟨k + 1, by omega, by go_num, by rw [HK.out, opsRow_snoc]; exact hT3, hsr.grown hg3 (by intro e; exact hg0 (Option.some.inj e)), gthen hB hg3 (Nat.le_refl _)⟩
      case measure => simp [intOf]; omega
    · have hke : k = os.length := by omega
      have htk : os.take k = os := by rw [hke]; exact List.take_length
      rw [htk] at hT
      have hxl := opsRow_len os (newRow n)
      have hnl : (newRow n).length = n := by simp [newRow]
      obtain ⟨xs, hxs⟩ : ∃ xs, opsRow os (newRow n) = xs := ⟨_, rfl⟩
      rw [hxs] at hT hxl
      rw [hnl] at hxl
      subst hxl
      have PL := Lib.hid (fun W hW => tlb_Places_is (w.heap.size + 1) w.heap.size xs W hW)
      obtain ⟨ii, hii, hz0, hz1, hz2⟩ := info_parts slot_info
      have HII := Lib.hid (And.intro hii (And.intro hz0 (And.intro hz1 hz2)))
      have hrl := rowCells_len xs
      have HRL := Lib.hid hrl
      have hpos := hT.pos
      have hle := hT.le
      have hT0 := hT.hd.lt
      clear hxs htk hnl hii hz0 hz1 hz2 hrl hn8
      go_wp2_with fail
      refine (PL.out _ hT).mono ?_
      rintro e w3 ⟨rfl, La, za, b3⟩
      have T3 := hT.below b3
      have B3 := bthen hB b3
      have s3 := hsr.below hsr.pos b3
      obtain ⟨ga, hga⟩ : ∃ ga, wr.heap.size = ga := ⟨_, rfl⟩
      rw [hga] at La hT0 za
      simp only [hga]
      clear hga hT hsr b3
      go_wp2_with fail
      refine (PL.out _ T3).mono ?_
      rintro e w4 ⟨rfl, Lb, zb, b4⟩
      have T4 := T3.below b4
      have B4 := bthen B3 b4
      have s4 := s3.below s3.pos b4
      have La4 := La.below b4 La.lt
      have hab : ga < w3.heap.size := La.lt
      obtain ⟨gb, hgb⟩ : ∃ gb, w3.heap.size = gb := ⟨_, rfl⟩
      rw [hgb] at Lb hab zb
      simp only [hgb]
      clear hgb T3 s3 b4 La B3
      go_wp2_with fail
      refine (sameSlots_at ga gb _ _ xs hle _ (RowF.of La4) (RowF.of Lb)).mono ?_
      rintro e w5 ⟨rfl, b5⟩
      have T5 := T4.below b5
      have B5 := bthen B4 b5
      have s5 := s4.below s4.pos b5
      have La5 := La4.below b5 La4.lt
      have Lb5 := Lb.below b5 Lb.lt
      have hb5 := Lb5.lt
      clear T4 s4 b5 La4 Lb B4 za zb
      have Na := add_at (RowF.of (La5.alloc (.cells #[] 50))).2
      have NA := Lib.hid Na
      clear Na
      go_wp2_with (refine wpList_append_full rfl (.tmp 52) (.tmp 53) 45 rfl 50 ii _ 10 64 Tryd.underlying45 HII.out.1 HII.out.2.1 HII.out.2.2.1 HII.out.2.2.2 rfl w5.heap.size 0 [] rfl (fun j v h => by simp at h) rfl ⟨ga, 0, none⟩ xs.length xs.length (rowCells xs) rfl HRL.out NA.out hpos (by omega) (by omega) ?_; intro capw w6 hw6 b6 z6)
      have Rw6 : RowF w6 (w5.heap.size + 1) xs := ⟨by rw [z6]; simp, fun j v hv => by have := hw6 j v (by simpa using hv); simpa using this⟩
      have T6 := (T5.below ((Below.refl _ _).alloc (Nat.le_refl _) (.cells #[] 50))).below b6
      have B6 := bthen (B5.alloc B5.size (.cells #[] 50)) b6
      have s6 := (s5.alloc (.cells #[] 50)).below (s5.alloc _).pos b6
      have La6 := (La5.alloc (.cells #[] 50)).below b6 (La5.alloc _).lt
      have Lb6 := (Lb5.alloc (.cells #[] 50)).below b6 (Lb5.alloc _).lt
      obtain ⟨gw, hgw⟩ : ∃ gw, w5.heap.size + 1 = gw := ⟨_, rfl⟩
      have hgwb : gb < gw := by omega
      rw [hgw] at Rw6
      simp only [hgw]
      clear hgw NA hw6 b6 z6 T5 B5 s5 La5 Lb5 hb5
      refine (small_at 1 _).mono ?_
      rintro e w7 ⟨rfl, b7⟩
      have T7 := T6.below b7
      have B7 := bthen B6 b7
      have s7 := s6.below s6.pos b7
      have La7 := La6.below b7 La6.lt
      have Lb7 := Lb6.below b7 Lb6.lt
      have Rw7 := Rw6.below b7
      clear T6 B6 s6 La6 Lb6 Rw6
      have Na := add_at (RowF.of (La7.alloc (.cells #[.bool true, .int .i64 1, .int .i64 1, .int .u32 0, .int .u64 20480, .int .i64 1, .int .i64 3, .int .u32 14, .bool true, .bool false] 50))).2
      have NA := Lib.hid Na
      have Nm : ∀ j u, (slotCells (mark 1))[j]? = some u → (w7.alloc (.cells #[.bool true, .int .i64 1, .int .i64 1, .int .u32 0, .int .u64 20480, .int .i64 1, .int .i64 3, .int .u32 14, .bool true, .bool false] 50)).cell? ((⟨w7.heap.size, 0, none⟩ : Addr).add j) = some u := World.news_of_block (cs := #[.bool true, .int .i64 1, .int .i64 1, .int .u32 0, .int .u64 20480, .int .i64 1, .int .i64 3, .int .u32 14, .bool true, .bool false]) (heap_alloc_new w7 _)
      have NM := Lib.hid Nm
      clear Na Nm
      go_wp2_with (refine wpList_append_full rfl (.tmp 55) (.tmp 58) 45 rfl 50 ii _ 10 64 Tryd.underlying45 HII.out.1 HII.out.2.1 HII.out.2.2.1 HII.out.2.2.2 rfl ga xs.length (rowCells xs) HRL.out NA.out rfl ⟨w7.heap.size, 0, none⟩ 1 1 (slotCells (mark 1)) rfl rfl NM.out (by omega) (by omega) (by omega) ?_; intro cap8 w8 hw8 b8 z8)
      have Rx8 : RowF w8 (w7.heap.size + 1) (xs ++ [mark 1]) := ⟨by rw [z8]; simp, fun j v hv => by have := hw8 j v (by rw [← rowCells_snoc']; exact hv); simpa using this⟩
      have T8 := (T7.below ((Below.refl _ _).alloc (Nat.le_refl _) (.cells #[.bool true, .int .i64 1, .int .i64 1, .int .u32 0, .int .u64 20480, .int .i64 1, .int .i64 3, .int .u32 14, .bool true, .bool false] 50))).below b8
      have B8 := bthen (B7.alloc B7.size (.cells #[.bool true, .int .i64 1, .int .i64 1, .int .u32 0, .int .u64 20480, .int .i64 1, .int .i64 3, .int .u32 14, .bool true, .bool false] 50)) b8
      have s8 := (s7.alloc (.cells #[.bool true, .int .i64 1, .int .i64 1, .int .u32 0, .int .u64 20480, .int .i64 1, .int .i64 3, .int .u32 14, .bool true, .bool false] 50)).below (s7.alloc _).pos b8
      have La8 := (La7.alloc (.cells #[.bool true, .int .i64 1, .int .i64 1, .int .u32 0, .int .u64 20480, .int .i64 1, .int .i64 3, .int .u32 14, .bool true, .bool false] 50)).below b8 (La7.alloc _).lt
      have Lb8 := (Lb7.alloc (.cells #[.bool true, .int .i64 1, .int .i64 1, .int .u32 0, .int .u64 20480, .int .i64 1, .int .i64 3, .int .u32 14, .bool true, .bool false] 50)).below b8 (Lb7.alloc _).lt
      have Rw8 := (Rw7.below ((Below.refl _ _).alloc (Nat.le_refl _) (.cells #[.bool true, .int .i64 1, .int .i64 1, .int .u32 0, .int .u64 20480, .int .i64 1, .int .i64 3, .int .u32 14, .bool true, .bool false] 50))).below b8
      obtain ⟨gx, hgx⟩ : ∃ gx, w7.heap.size + 1 = gx := ⟨_, rfl⟩
      have hbx : gb < gx := by have := Lb7.lt; omega
      rw [hgx] at Rx8
      simp only [hgx]
      clear hgx NA NM hw8 b8 z8 b7 T7 B7 s7 La7 Lb7 Rw7
      refine (small_at 2 _).mono ?_
      rintro e w9 ⟨rfl, b9⟩
      have T9 := T8.below b9
      have B9 := bthen B8 b9
      have s9 := s8.below s8.pos b9
      have La9 := La8.below b9 La8.lt
      have Lb9 := Lb8.below b9 Lb8.lt
      have Rw9 := Rw8.below b9
      have Rx9 := Rx8.below b9
      clear T8 B8 s8 La8 Lb8 Rw8 Rx8
      have Na := add_at (RowF.of (Lb9.alloc (.cells #[.bool true, .int .i64 2, .int .i64 1, .int .u32 0, .int .u64 20480, .int .i64 1, .int .i64 3, .int .u32 14, .bool true, .bool false] 50))).2
      have NA := Lib.hid Na
      have Nm : ∀ j u, (slotCells (mark 2))[j]? = some u → (w9.alloc (.cells #[.bool true, .int .i64 2, .int .i64 1, .int .u32 0, .int .u64 20480, .int .i64 1, .int .i64 3, .int .u32 14, .bool true, .bool false] 50)).cell? ((⟨w9.heap.size, 0, none⟩ : Addr).add j) = some u := World.news_of_block (cs := #[.bool true, .int .i64 2, .int .i64 1, .int .u32 0, .int .u64 20480, .int .i64 1, .int .i64 3, .int .u32 14, .bool true, .bool false]) (heap_alloc_new w9 _)
      have NM := Lib.hid Nm
      clear Na Nm
      go_wp2_with (refine wpList_append_full rfl (.tmp 60) (.tmp 63) 45 rfl 50 ii _ 10 64 Tryd.underlying45 HII.out.1 HII.out.2.1 HII.out.2.2.1 HII.out.2.2.2 rfl gb xs.length (rowCells xs) HRL.out NA.out rfl ⟨w9.heap.size, 0, none⟩ 1 1 (slotCells (mark 2)) rfl rfl NM.out (by omega) (by omega) (by omega) ?_; intro cap10 w10 hw10 b10 z10)
      have Ry10 : RowF w10 (w9.heap.size + 1) (xs ++ [mark 2]) := ⟨by rw [z10]; simp, fun j v hv => by have := hw10 j v (by rw [← rowCells_snoc']; exact hv); simpa using this⟩
      have T10 := (T9.below ((Below.refl _ _).alloc (Nat.le_refl _) (.cells #[.bool true, .int .i64 2, .int .i64 1, .int .u32 0, .int .u64 20480, .int .i64 1, .int .i64 3, .int .u32 14, .bool true, .bool false] 50))).below b10
      have B10 := bthen (B9.alloc B9.size (.cells #[.bool true, .int .i64 2, .int .i64 1, .int .u32 0, .int .u64 20480, .int .i64 1, .int .i64 3, .int .u32 14, .bool true, .bool false] 50)) b10
      have s10 := (s9.alloc (.cells #[.bool true, .int .i64 2, .int .i64 1, .int .u32 0, .int .u64 20480, .int .i64 1, .int .i64 3, .int .u32 14, .bool true, .bool false] 50)).below (s9.alloc _).pos b10
      have La10 := (La9.alloc (.cells #[.bool true, .int .i64 2, .int .i64 1, .int .u32 0, .int .u64 20480, .int .i64 1, .int .i64 3, .int .u32 14, .bool true, .bool false] 50)).below b10 (La9.alloc _).lt
      have Lb10 := (Lb9.alloc (.cells #[.bool true, .int .i64 2, .int .i64 1, .int .u32 0, .int .u64 20480, .int .i64 1, .int .i64 3, .int .u32 14, .bool true, .bool false] 50)).below b10 (Lb9.alloc _).lt
      have Rw10 := (Rw9.below ((Below.refl _ _).alloc (Nat.le_refl _) (.cells #[.bool true, .int .i64 2, .int .i64 1, .int .u32 0, .int .u64 20480, .int .i64 1, .int .i64 3, .int .u32 14, .bool true, .bool false] 50))).below b10
      have Rx10 := (Rx9.below ((Below.refl _ _).alloc (Nat.le_refl _) (.cells #[.bool true, .int .i64 2, .int .i64 1, .int .u32 0, .int .u64 20480, .int .i64 1, .int .i64 3, .int .u32 14, .bool true, .bool false] 50))).below b10
      obtain ⟨gy, hgy⟩ : ∃ gx, w9.heap.size + 1 = gx := ⟨_, rfl⟩
      have hby : gb < gy := by have := Lb9.lt; omega
      rw [hgy] at Ry10
      simp only [hgy]
      clear hgy NA NM hw10 b10 z10 b9 T9 B9 s9 La9 Lb9 Rw9 Rx9
      go_wp2_with fail
      go_loopw [13] (fun v13 wq => ∃ i : Nat, i ≤ xs.length ∧ v13 = .int .i64 i ∧ Blok wq ga 50 (rowCells (mixTo (mark 3) i xs)) ∧ Blok wq gb 50 (rowCells (mixTo (mark 4) i xs)) ∧ RowF wq gw xs ∧ RowF wq gx (xs ++ [mark 1]) ∧ RowF wq gy (xs ++ [mark 2]) ∧ IsTlb wq 105 50 (w.heap.size + 1) w.heap.size xs ∧ Shf wq ∧ Below w.heap.size w wq) (fun v13 _ => xs.length - (intOf v13).toNat)
      case atStart => exact ⟨0, Nat.zero_le _, rfl, La10, Lb10, Rw10, Rx10, Ry10, T10, s10, B10⟩
      case round =>
        clear La10 Lb10 Rw10 Rx10 Ry10 T10 s10 B10
        obtain ⟨i, hi, rfl, La, Lb, Rw, Rx, Ry, hT, hsq, hB⟩ := hrel
        by_cases hlt2 : i < xs.length
        · have i0 : (0 : Int) ≤ ↑i := by omega
          have i1 : (↑i : Int) < ↑xs.length := by omega
          have hla := rowCells_len (mixTo (mark 3) i xs)
          have hlb := rowCells_len (mixTo (mark 4) i xs)
          rw [mixTo_len _ _ _ hi] at hla hlb
          have HLA := Lib.hid hla
          have HLB := Lib.hid hlb
          have SA := Lib.hid (rowCells_set (mixTo (mark 3) i xs) i (mark 3) (by rw [mixTo_len _ _ _ hi]; exact hlt2))
          have SB := Lib.hid (rowCells_set (mixTo (mark 4) i xs) i (mark 4) (by rw [mixTo_len _ _ _ hi]; exact hlt2))
          have NA := Lib.hid (mixTo_next (mark 3) i xs hlt2)
          have NB := Lib.hid (mixTo_next (mark 4) i xs hlt2)
          clear hla hlb
          go_wp2_with fail
          refine (small_at 3 _).mono ?_
          rintro e w11 ⟨rfl, b11⟩
          have La1 := La.below b11 La.lt
          have Lb1 := Lb.below b11 Lb.lt
          have Rw1 := Rw.below b11
          have Rx1 := Rx.below b11
          have Ry1 := Ry.below b11
          have T1 := hT.below b11
          have s1 := hsq.below hsq.pos b11
          have B1 := bthen hB b11
          clear La Lb Rw Rx Ry hT hsq hB b11
          go_wp2_with (refine wpList_store_blok rfl _ (.tmp 74) (.tmp 73) rfl ga (i * 10) #[.bool true, .int .i64 3, .int .i64 1, .int .u32 0, .int .u64 20480, .int .i64 1, .int .i64 3, .int .u32 14, .bool true, .bool false] rfl rfl La1 (by rw [HLA.out]; simp; omega) (by kernel_rfl) rfl ?_; intro w12 La2 g12 z12)
          have La2 : Blok w12 ga 50 (rowCells (mixTo (mark 3) (i + 1) xs)) := by rw [NA.out, SA.out]; exact La2
          have Lb2 := Lb1.grown g12 (by intro e; have := Option.some.inj e; omega)
          have Rw2 := Rw1.far g12 (by omega)
          have Rx2 := Rx1.far g12 (by omega)
          have Ry2 := Ry1.far g12 (by omega)
          have T2 := T1.far g12 (by omega) (by omega)
          have s2 := s1.grown g12 (by intro e; have := Option.some.inj e; omega)
          have B2 : Below w.heap.size w w12 := gthen B1 g12 (by omega)
          clear La1 Lb1 Rw1 Rx1 Ry1 T1 s1 B1 g12 z12
          refine (small_at 4 _).mono ?_
          rintro e w13 ⟨rfl, b13⟩
          have La3 := La2.below b13 La2.lt
          have Lb3 := Lb2.below b13 Lb2.lt
          have Rw3 := Rw2.below b13
          have Rx3 := Rx2.below b13
          have Ry3 := Ry2.below b13
          have T3 := T2.below b13
          have s3 := s2.below s2.pos b13
          have B3 := bthen B2 b13
          clear La2 Lb2 Rw2 Rx2 Ry2 T2 s2 B2 b13
          go_wp2_with (refine wpList_store_blok rfl _ (.tmp 79) (.tmp 78) rfl gb (i * 10) #[.bool true, .int .i64 4, .int .i64 1, .int .u32 0, .int .u64 20480, .int .i64 1, .int .i64 3, .int .u32 14, .bool true, .bool false] rfl rfl Lb3 (by rw [HLB.out]; simp; omega) (by kernel_rfl) rfl ?_; intro w14 Lb4 g14 z14)
          have Lb4 : Blok w14 gb 50 (rowCells (mixTo (mark 4) (i + 1) xs)) := by rw [NB.out, SB.out]; exact Lb4
          go_roundw
          case rel => exact ⟨i + 1, by omega, by go_num, La3.grown g14 (by intro e; have := Option.some.inj e; omega), Lb4, Rw3.far g14 (by omega), Rx3.far g14 (by omega), Ry3.far g14 (by omega), T3.far g14 (by omega) (by omega), s3.grown g14 (by intro e; have := Option.some.inj e; omega), gthen B3 g14 (by omega)⟩
          case measure => simp [intOf]; omega
        · have hie : i = xs.length := by omega
          rw [hie, mixTo_all] at La Lb
          clear hie
          go_wp2_with fail
          go_loopw [14] (fun v14 wq => ∃ i : Nat, i ≤ xs.length ∧ v14 = .int .i64 i ∧ RowF wq ga (List.replicate xs.length (mark 3)) ∧ RowF wq gb (List.replicate xs.length (mark 4)) ∧ RowF wq gw xs ∧ RowF wq gx (xs ++ [mark 1]) ∧ RowF wq gy (xs ++ [mark 2]) ∧ IsTlb wq 105 50 (w.heap.size + 1) w.heap.size xs ∧ Shf wq ∧ Below w.heap.size w wq) (fun v14 _ => xs.length - (intOf v14).toNat)
          case atStart => exact ⟨0, Nat.zero_le _, rfl, RowF.of La, RowF.of Lb, Rw, Rx, Ry, hT, hsq, hB⟩
          case round =>
            clear La Lb Rw Rx Ry hT hsq hB
            obtain ⟨i, hi, rfl, Ra, Rb, Rw, Rx, Ry, hT, hsq, hB⟩ := hrel
            by_cases hlt3 : i < xs.length
            · have i0 : (0 : Int) ≤ ↑i := by omega
              have i1 : (↑i : Int) < ↑xs.length := by omega
              have ca : wr.cell? ⟨ga, i * 10 + 1, none⟩ = some (.int .i64 3) := Ra.cells i (mark 3) (by simp [hlt3]) 1 (by omega)
              have cb : wr.cell? ⟨gb, i * 10 + 1, none⟩ = some (.int .i64 4) := Rb.cells i (mark 4) (by simp [hlt3]) 1 (by omega)
              go_wp2
              go_roundw
              case rel => exact ⟨i + 1, by omega, by go_num, Ra, Rb, Rw, Rx, Ry, hT, hsq, hB⟩
              case measure => simp [intOf]; omega
            · have i0 : (0 : Int) ≤ ↑xs.length := by omega
              have i1 : (↑xs.length : Int) < ↑(xs.length + 1) := by omega
              have i2 : (↑xs.length : Int) < ↑xs.length + 1 := by omega
              have cx : wr.cell? ⟨gx, xs.length * 10 + 1, none⟩ = some (.int .i64 1) := Rx.cells xs.length (mark 1) (by simp) 1 (by omega)
              have cy : wr.cell? ⟨gy, xs.length * 10 + 1, none⟩ = some (.int .i64 2) := Ry.cells xs.length (mark 2) (by simp) 1 (by omega)
              go_wp2_with fail
              refine (PL.out _ hT).mono ?_
              rintro e w11 ⟨rfl, Lp, zp, b11⟩
              go_wp2_with fail
              refine (sameSlots_at wr.heap.size gw _ _ xs hle _ (RowF.of Lp) (Rw.below b11)).mono ?_
              rintro e w12 ⟨rfl, b12⟩
              go_wp2_with fail
              go_ret
              exact ⟨rfl, bthen (bthen hB b11) b12⟩
end Go.Proofs.YtngcpcgioophcaaDoor
