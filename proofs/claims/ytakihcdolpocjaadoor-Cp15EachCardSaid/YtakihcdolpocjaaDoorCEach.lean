/- The walk of the law Cp15Each of layer 8. -/
import Derived.Test.YtakihcdolpocjaaDoorCSeenP
import Derived.Test.YtakihcdolpocjaaDoorCMask
import Derived.Deep.RegionWith
namespace Go.Proofs.YtakihcdolpocjaaDoor
open Go.RowKit

/-- the calls that turn a register: which one, and to what; and those that turn none -/
inductive Turns (o : Op8) (rs : List Int) : Prop
  | write (i : Nat) (hi : i < 13) (hk : o.kind = 2) (hr : regOf o.t = some i) (he : (doesR o rs).2.1 = 0) (ht : (doesR o rs).2.2 = rs.set i (keep i o.word)) (ht2 : (doesR o (rs.set i (keep i o.word))).2.2 = rs.set i (keep i o.word))
  | put (i : Nat) (hi : i < 13) (hk : o.kind = 4) (hr : o.reg = i) (he : (doesR o rs).2.1 = 0) (ht : (doesR o rs).2.2 = rs.set i (keep i o.word)) (ht2 : (doesR o (rs.set i (keep i o.word))).2.2 = rs.set i (keep i o.word))
  | no (ht : (doesR o rs).2.2 = rs) (h2 : o.kind = 2 → (regOf o.t).isSome = true → (doesR o rs).2.1 = 81) (h4 : o.kind = 4 → (doesR o rs).2.1 = 1) (ha : (doesR o rs).2.1 ≠ 0 → (doesR o rs).1 = zactA)
theorem write_zact (t : Tup) (priv : Bool) (v : Int) (rs : List Int) (h : (writeR t priv v rs).2.1 ≠ 0) : (writeR t priv v rs).1 = zactA := by
  unfold writeR at h ⊢
  cases hr : regOf t with
  | some i =>
    rw [hr] at h
    dsimp only at h ⊢
    split at h
    · exact absurd rfl h
    · rename_i hp; rw [if_neg hp]
  | none =>
    rw [hr] at h
    dsimp only at h ⊢
    split at h
    · exact absurd rfl h
    · rename_i h1
      rw [if_neg h1]
      split at h
      · rename_i h2
        rw [if_pos h2]
        split at h
        · exact absurd rfl h
        · rename_i h3; rw [if_neg h3]
      · rename_i h2
        rw [if_neg h2]
        split at h
        · rename_i h3
          rw [if_pos h3]
          split at h
          · exact absurd rfl h
          · rename_i h4; rw [if_neg h4]
        · rename_i h3; rw [if_neg h3]
theorem turns (o : Op8) (rs : List Int) : Turns o rs := by
  by_cases k2 : o.kind = 2
  · have e : ∀ r, doesR o r = writeR o.t o.priv o.word r := fun r => by unfold doesR; rw [if_neg (by omega), if_pos k2]
    cases hr : regOf o.t with
    | none =>
      refine .no ?_ (fun _ h => by rw [hr] at h; cases h) (fun h => by omega) (fun h => by rw [e] at h ⊢; exact write_zact _ _ _ _ h)
      rw [e]; unfold writeR; rw [hr]; dsimp only
      split
      · rfl
      · split
        · split <;> rfl
        · split
          · split <;> rfl
          · rfl
    | some i =>
      by_cases hp : o.priv = true
      · refine .write i (regOf_lt hr) k2 hr ?_ ?_ ?_
        · rw [e]; unfold writeR; rw [hr]; dsimp only; rw [if_pos hp]
        · rw [e]; unfold writeR; rw [hr]; dsimp only; rw [if_pos hp]
        · rw [e]; unfold writeR; rw [hr]; dsimp only; rw [if_pos hp]; exact set_set _ _ _ _
      · refine .no ?_ (fun _ _ => ?_) (fun h => by omega) (fun h => by rw [e] at h ⊢; exact write_zact _ _ _ _ h)
        · rw [e]; unfold writeR; rw [hr]; dsimp only; rw [if_neg hp]
        · rw [e]; unfold writeR; rw [hr]; dsimp only; rw [if_neg hp]
  · by_cases k4 : o.kind = 4
    · by_cases hr : 0 ≤ o.reg ∧ o.reg < 13
      · obtain ⟨i, hi⟩ := Int.eq_ofNat_of_zero_le hr.1
        have e : ∀ r, doesR o r = (zactA, 0, r.set i (keep i o.word)) := fun r => by unfold doesR; rw [if_neg (by omega), if_neg k2, if_pos k4, if_pos hr, hi]; rfl
        exact .put i (by omega) k4 hi (by rw [e]) (by rw [e]) (by rw [e]; exact set_set _ _ _ _)
      · have e : doesR o rs = (zactA, 1, rs) := by unfold doesR; rw [if_neg (by omega), if_neg k2, if_pos k4, if_neg hr]; rfl
        exact .no (by rw [e]) (fun h => absurd h k2) (fun _ => by rw [e]) (fun _ => by rw [e])
    · have e : (doesR o rs).1 = zactA ∧ (doesR o rs).2.2 = rs := by
        unfold doesR
        rw [if_neg k2, if_neg k4]
        split
        · exact ⟨rfl, rfl⟩
        · exact ⟨rfl, rfl⟩
      exact .no e.2 (fun h => absurd h k2) (fun h => absurd h k4) (fun _ => e.1)
theorem doesR_act (o : Op8) (rs : List Int) : ∃ (a0 a1 a2 a3 a4 : Int) (a5 a6 : Bool), (doesR o rs).1 = #[.int .i64 a0, .int .i64 a1, .int .u32 a2, .int .i64 a3, .int .u32 a4, .bool a5, .bool a6] := by
  unfold doesR
  split
  · exact ⟨_, _, _, _, _, _, _, rfl⟩
  · split
    · exact writeR_act _ _ _ _
    · split
      · split <;> exact ⟨_, _, _, _, _, _, _, rfl⟩
      · exact ⟨_, _, _, _, _, _, _, rfl⟩
theorem regRes_cases (t : Tup) : ∃ (r : Int) (b : Bool), regRes t = .tuple #[.int .i64 r, .bool b] ∧ b = (regOf t).isSome ∧ (∀ i, regOf t = some i → r = i) := by
  unfold regRes
  cases h : regOf t with
  | none => exact ⟨0, false, rfl, rfl, fun i e => by cases e⟩
  | some i => exact ⟨i, true, rfl, rfl, fun j e => by cases e; rfl⟩

theorem box_file (w : World) (rs : List Int) (h : rs.length = 13) : IsFile (w.alloc (.cells #[.int .u32 (rg rs 0), .int .u32 (rg rs 1), .int .u32 (rg rs 2), .int .u32 (rg rs 3), .int .u32 (rg rs 4), .int .u32 (rg rs 5), .int .u32 (rg rs 6), .int .u32 (rg rs 7), .int .u32 (rg rs 8), .int .u32 (rg rs 9), .int .u32 (rg rs 10), .int .u32 (rg rs 11), .int .u32 (rg rs 12)] 37)) 37 w.heap.size rs := by
  refine ⟨?_, h⟩
  have := Blok.new w 37 (regCells rs)
  rwa [regCells_lit0 rs h] at this
theorem neq_act0 (w : World) : (binOp .neq 42 (.agg #[.int .i64 0, .int .i64 0, .int .u32 0, .int .i64 0, .int .u32 0, .bool false, .bool false]) (.agg #[.int .i64 0, .int .i64 0, .int .u32 0, .int .i64 0, .int .u32 0, .bool false, .bool false])).run Tryd.prog w = .ok (.bool false) w := by
  have h : (Op.equalIn (9995 + 5) 42 (.agg #[.int .i64 0, .int .i64 0, .int .u32 0, .int .i64 0, .int .u32 0, .bool false, .bool false]) (.agg #[.int .i64 0, .int .i64 0, .int .u32 0, .int .i64 0, .int .u32 0, .bool false, .bool false])).run Tryd.prog w = .ok true w := by simp [go_sem]
  rw [run_neq_struct, h]; rfl
theorem held_isL (fb : Nat) (rs : List Int) (w : World) (h : IsFile w 63 fb rs) :
    Calls Tryd.prog 13 #[.pointer (some ⟨fb, 0, none⟩)] w fun e w' => e = .returned (.agg #[.int .u32 (rg rs 0), .int .u32 (rg rs 1), .int .u32 (rg rs 2), .int .u32 (rg rs 3), .int .u32 (rg rs 4), .int .u32 (rg rs 5), .int .u32 (rg rs 6), .int .u32 (rg rs 7), .int .u32 (rg rs 8), .int .u32 (rg rs 9), .int .u32 (rg rs 10), .int .u32 (rg rs 11), .int .u32 (rg rs 12)]) ∧ Below w.heap.size w w' := held_isA fb rs w h

set_option maxHeartbeats 12800000 in
set_option maxRecDepth 100000 in
theorem each_walk (p : Option Addr) (cap : Nat) (os : List Op8) (hos : ∀ o ∈ os, o.Ok) (hmax : os.length ≤ maxLen) (w : World) (hs : Rul w) (hO : OpsIn8 w.heap.size w p os) :
    Calls Tryd.prog 5 #[.slice p os.length cap] w fun e w' => e = .returned (.bool true) ∧ Below w.heap.size w w' := by
  have hml : os.length < 9223372036854775808 := Nat.lt_of_le_of_lt hmax (by decide)
  clear hmax
  have hgp := hs.pos
  have NR : Calls Tryd.prog 8 #[] w fun e w' => ∃ rb, w.heap.size ≤ rb ∧ e = .returned (.pointer (some ⟨rb, 0, none⟩)) ∧ IsFile w' 63 rb startL ∧ Below w.heap.size w w' :=
    (New_is w hs).mono fun e w' h => ⟨_, Nat.le_refl _, h⟩
  have NR := Lib.hid NR
  go_enter Tryd.func5, Tryd.ntmps5
  go_wp2_with fail
  refine NR.out.mono ?_
  rintro e w1 ⟨fb, hfb, rfl, F1, b1⟩
  have s1 := hs.below b1
  go_wp2_with fail
  refine (live_is w1 s1).mono ?_
  rintro e w3 ⟨rfl, b3⟩
  have s3 := s1.below b3
  have F3 := F1.below b3
  have B3 : Below w.heap.size w w3 := bthen b1 b3
  have hfr : fb ≠ 0 := by omega
  clear hgp s1 F1 b1 b3
  go_wp2_with fail
  go_loopw [4] (fun v4 wr => ∃ (k : Nat) (rs : List Int), k ≤ os.length ∧ v4 = .int .i64 k ∧ RegsOk rs ∧ Kept rs ∧ Rul wr ∧ IsFile wr 63 fb rs ∧ Below w.heap.size w wr) (fun v4 _ => os.length - (intOf v4).toNat)
  case atStart => exact ⟨0, startL, Nat.zero_le _, rfl, startOk, startKept, s3, F3, B3⟩
  case round =>
    obtain ⟨k, rs, hk, rfl, hok, hkp, s5, F5, B5⟩ := hrel
    clear s3 F3 B3
    by_cases hlt : k < os.length
    · obtain ⟨o, hok'⟩ : ∃ o, os[k]? = some o := ⟨_, List.getElem?_eq_getElem hlt⟩
      have hoo := hos o (List.mem_of_getElem? hok')
      obtain ⟨b, k0, hp, hb, hc⟩ := (hO.below B5) k o hok'
      subst hp
      have OK0 := doesR_ok o hoo hok hkp
      have c0 : wr.cell? ⟨b, k0 + k * 8, none⟩ = some (.int .i64 o.kind) := hc 0 _ rfl
      have c1 := hc 1 _ rfl
      have c2 := hc 2 _ rfl
      have c3 := hc 3 _ rfl
      have c4 := hc 4 _ rfl
      have c5 := hc 5 _ rfl
      have c6 := hc 6 _ rfl
      have c7 := hc 7 _ rfl
      have i0 : (0 : Int) ≤ ↑k := by omega
      have i1 : (↑k : Int) < ↑os.length := by omega
      have TU := turns o rs
      obtain ⟨a0, a1, a2, a3, a4, a5, a6, ha⟩ := doesR_act o rs
      have hfl := F5.b.lt
      have hl13 := F5.len
      have HDW := Lib.hid (held_isL fb rs (wr.alloc (.cells #[.int .i64 o.kind, .int .i64 o.t.crn, .int .i64 o.t.op1, .int .i64 o.t.crm, .int .i64 o.t.op2, .bool o.priv, .int .u32 o.word, .int .i64 o.reg] 34)) (F5.alloc _))
      obtain ⟨ee, rs', he, hrs'⟩ : ∃ ee rs', (doesR o rs).2.1 = ee ∧ (doesR o rs).2.2 = rs' := ⟨_, _, rfl, rfl⟩
      have DO0 := fun W hW hF => does_is o hoo fb rs W hW hF
      unfold DoesPost at DO0
      rw [ha, he, hrs'] at DO0
      rw [hrs'] at OK0
      have OK := Lib.hid OK0
      have DO := Lib.hid DO0
      have HNL := Lib.hid (fun W hF => held_isL fb rs' W hF)
      have AQ := Lib.hid (And.intro ha (And.intro he hrs'))
      have RES0 := fun W hW => Register_is o.t W hW
      have TU := Lib.hid TU
      have HC := Lib.hid hoo
      have RC := regRes_cases o.t
      obtain ⟨r, okb, hres, hokb, hri⟩ := RC
      rw [hres] at RES0
      have RES := Lib.hid RES0
      have HRI := Lib.hid (And.intro hokb hri)
      clear hok' hc DO0 ha he hrs' hok hkp hoo RES0 hres hokb hri OK0
      go_wp2_with fail
      refine (HDW.out).mono ?_
      rintro e w6 ⟨rfl, b6⟩
      have s6 := ((s5.alloc (.cells #[.int .i64 o.kind, .int .i64 o.t.crn, .int .i64 o.t.op1, .int .i64 o.t.crm, .int .i64 o.t.op2, .bool o.priv, .int .u32 o.word, .int .i64 o.reg] 34)).below b6).alloc (.cells #[.int .u32 (rg rs 0), .int .u32 (rg rs 1), .int .u32 (rg rs 2), .int .u32 (rg rs 3), .int .u32 (rg rs 4), .int .u32 (rg rs 5), .int .u32 (rg rs 6), .int .u32 (rg rs 7), .int .u32 (rg rs 8), .int .u32 (rg rs 9), .int .u32 (rg rs 10), .int .u32 (rg rs 11), .int .u32 (rg rs 12)] 37)
      have F6 := ((F5.alloc (.cells #[.int .i64 o.kind, .int .i64 o.t.crn, .int .i64 o.t.op1, .int .i64 o.t.crm, .int .i64 o.t.op2, .bool o.priv, .int .u32 o.word, .int .i64 o.reg] 34)).below b6).alloc (.cells #[.int .u32 (rg rs 0), .int .u32 (rg rs 1), .int .u32 (rg rs 2), .int .u32 (rg rs 3), .int .u32 (rg rs 4), .int .u32 (rg rs 5), .int .u32 (rg rs 6), .int .u32 (rg rs 7), .int .u32 (rg rs 8), .int .u32 (rg rs 9), .int .u32 (rg rs 10), .int .u32 (rg rs 11), .int .u32 (rg rs 12)] 37)
      have B6 := (bthen (B5.alloc B5.size (.cells #[.int .i64 o.kind, .int .i64 o.t.crn, .int .i64 o.t.op1, .int .i64 o.t.crm, .int .i64 o.t.op2, .bool o.priv, .int .u32 o.word, .int .i64 o.reg] 34)) b6).alloc (bthen (B5.alloc B5.size (.cells #[.int .i64 o.kind, .int .i64 o.t.crn, .int .i64 o.t.op1, .int .i64 o.t.crm, .int .i64 o.t.op2, .bool o.priv, .int .u32 o.word, .int .i64 o.reg] 34)) b6).size (.cells #[.int .u32 (rg rs 0), .int .u32 (rg rs 1), .int .u32 (rg rs 2), .int .u32 (rg rs 3), .int .u32 (rg rs 4), .int .u32 (rg rs 5), .int .u32 (rg rs 6), .int .u32 (rg rs 7), .int .u32 (rg rs 8), .int .u32 (rg rs 9), .int .u32 (rg rs 10), .int .u32 (rg rs 11), .int .u32 (rg rs 12)] 37)
      have O6 := (Blok.below (w := wr.alloc (.cells #[.int .i64 o.kind, .int .i64 o.t.crn, .int .i64 o.t.op1, .int .i64 o.t.crm, .int .i64 o.t.op2, .bool o.priv, .int .u32 o.word, .int .i64 o.reg] 34)) (Blok.new wr 34 (#[.int .i64 o.kind, .int .i64 o.t.crn, .int .i64 o.t.op1, .int .i64 o.t.crm, .int .i64 o.t.op2, .bool o.priv, .int .u32 o.word, .int .i64 o.reg] : Array Value).toList) b6 (by simp)).alloc (.cells #[.int .u32 (rg rs 0), .int .u32 (rg rs 1), .int .u32 (rg rs 2), .int .u32 (rg rs 3), .int .u32 (rg rs 4), .int .u32 (rg rs 5), .int .u32 (rg rs 6), .int .u32 (rg rs 7), .int .u32 (rg rs 8), .int .u32 (rg rs 9), .int .u32 (rg rs 10), .int .u32 (rg rs 11), .int .u32 (rg rs 12)] 37)
      have W6 := box_file w6 rs F5.len
      have z6 := b6.size
      simp at z6
      (have o0 : ((w6.alloc (.cells #[.int .u32 (rg rs 0), .int .u32 (rg rs 1), .int .u32 (rg rs 2), .int .u32 (rg rs 3), .int .u32 (rg rs 4), .int .u32 (rg rs 5), .int .u32 (rg rs 6), .int .u32 (rg rs 7), .int .u32 (rg rs 8), .int .u32 (rg rs 9), .int .u32 (rg rs 10), .int .u32 (rg rs 11), .int .u32 (rg rs 12)] 37))).cell? ⟨wr.heap.size, 0, none⟩ = some (.int .i64 o.kind) := (O6).cell 0; have o1 : ((w6.alloc (.cells #[.int .u32 (rg rs 0), .int .u32 (rg rs 1), .int .u32 (rg rs 2), .int .u32 (rg rs 3), .int .u32 (rg rs 4), .int .u32 (rg rs 5), .int .u32 (rg rs 6), .int .u32 (rg rs 7), .int .u32 (rg rs 8), .int .u32 (rg rs 9), .int .u32 (rg rs 10), .int .u32 (rg rs 11), .int .u32 (rg rs 12)] 37))).cell? ⟨wr.heap.size, 1, none⟩ = some (.int .i64 o.t.crn) := (O6).cell 1; have o2 : ((w6.alloc (.cells #[.int .u32 (rg rs 0), .int .u32 (rg rs 1), .int .u32 (rg rs 2), .int .u32 (rg rs 3), .int .u32 (rg rs 4), .int .u32 (rg rs 5), .int .u32 (rg rs 6), .int .u32 (rg rs 7), .int .u32 (rg rs 8), .int .u32 (rg rs 9), .int .u32 (rg rs 10), .int .u32 (rg rs 11), .int .u32 (rg rs 12)] 37))).cell? ⟨wr.heap.size, 2, none⟩ = some (.int .i64 o.t.op1) := (O6).cell 2; have o3 : ((w6.alloc (.cells #[.int .u32 (rg rs 0), .int .u32 (rg rs 1), .int .u32 (rg rs 2), .int .u32 (rg rs 3), .int .u32 (rg rs 4), .int .u32 (rg rs 5), .int .u32 (rg rs 6), .int .u32 (rg rs 7), .int .u32 (rg rs 8), .int .u32 (rg rs 9), .int .u32 (rg rs 10), .int .u32 (rg rs 11), .int .u32 (rg rs 12)] 37))).cell? ⟨wr.heap.size, 3, none⟩ = some (.int .i64 o.t.crm) := (O6).cell 3; have o4 : ((w6.alloc (.cells #[.int .u32 (rg rs 0), .int .u32 (rg rs 1), .int .u32 (rg rs 2), .int .u32 (rg rs 3), .int .u32 (rg rs 4), .int .u32 (rg rs 5), .int .u32 (rg rs 6), .int .u32 (rg rs 7), .int .u32 (rg rs 8), .int .u32 (rg rs 9), .int .u32 (rg rs 10), .int .u32 (rg rs 11), .int .u32 (rg rs 12)] 37))).cell? ⟨wr.heap.size, 4, none⟩ = some (.int .i64 o.t.op2) := (O6).cell 4; have o5 : ((w6.alloc (.cells #[.int .u32 (rg rs 0), .int .u32 (rg rs 1), .int .u32 (rg rs 2), .int .u32 (rg rs 3), .int .u32 (rg rs 4), .int .u32 (rg rs 5), .int .u32 (rg rs 6), .int .u32 (rg rs 7), .int .u32 (rg rs 8), .int .u32 (rg rs 9), .int .u32 (rg rs 10), .int .u32 (rg rs 11), .int .u32 (rg rs 12)] 37))).cell? ⟨wr.heap.size, 5, none⟩ = some (.bool o.priv) := (O6).cell 5; have o6 : ((w6.alloc (.cells #[.int .u32 (rg rs 0), .int .u32 (rg rs 1), .int .u32 (rg rs 2), .int .u32 (rg rs 3), .int .u32 (rg rs 4), .int .u32 (rg rs 5), .int .u32 (rg rs 6), .int .u32 (rg rs 7), .int .u32 (rg rs 8), .int .u32 (rg rs 9), .int .u32 (rg rs 10), .int .u32 (rg rs 11), .int .u32 (rg rs 12)] 37))).cell? ⟨wr.heap.size, 6, none⟩ = some (.int .u32 o.word) := (O6).cell 6; have o7 : ((w6.alloc (.cells #[.int .u32 (rg rs 0), .int .u32 (rg rs 1), .int .u32 (rg rs 2), .int .u32 (rg rs 3), .int .u32 (rg rs 4), .int .u32 (rg rs 5), .int .u32 (rg rs 6), .int .u32 (rg rs 7), .int .u32 (rg rs 8), .int .u32 (rg rs 9), .int .u32 (rg rs 10), .int .u32 (rg rs 11), .int .u32 (rg rs 12)] 37))).cell? ⟨wr.heap.size, 7, none⟩ = some (.int .i64 o.reg) := (O6).cell 7)
      go_wp2_with fail
      refine (DO.out _ s6 F6).mono ?_
      rintro e w7 ⟨rfl, F7, g7⟩
      clear o0 o1 o2 o3 o4 o5 o6 o7
      have O7 := (O6.grown g7 (by intro e; have := Option.some.inj e; omega)).alloc (.cells #[.int .i64 a0, .int .i64 a1, .int .u32 a2, .int .i64 a3, .int .u32 a4, .bool a5, .bool a6] 42)
      have W7 := (W6.far g7 (by intro e; have := Option.some.inj e; omega)).alloc (.cells #[.int .i64 a0, .int .i64 a1, .int .u32 a2, .int .i64 a3, .int .u32 a4, .bool a5, .bool a6] 42)
      have s7 := (s6.grown g7 (by intro e; exact hfr (Option.some.inj e))).alloc (.cells #[.int .i64 a0, .int .i64 a1, .int .u32 a2, .int .i64 a3, .int .u32 a4, .bool a5, .bool a6] 42)
      have F7 := F7.alloc (.cells #[.int .i64 a0, .int .i64 a1, .int .u32 a2, .int .i64 a3, .int .u32 a4, .bool a5, .bool a6] 42)
      have A7 : Blok (w7.alloc (.cells #[.int .i64 a0, .int .i64 a1, .int .u32 a2, .int .i64 a3, .int .u32 a4, .bool a5, .bool a6] 42)) w7.heap.size 42 (#[.int .i64 a0, .int .i64 a1, .int .u32 a2, .int .i64 a3, .int .u32 a4, .bool a5, .bool a6] : Array Value).toList := Blok.new w7 _ _
      have B7 := bel_one hfb B6 g7
      have B7 := B7.alloc B7.size (.cells #[.int .i64 a0, .int .i64 a1, .int .u32 a2, .int .i64 a3, .int .u32 a4, .bool a5, .bool a6] 42)
      go_wp2_with fail
      refine (HNL.out _ F7).mono ?_
      rintro e w8 ⟨rfl, b8⟩
      have O8 := (O7.below b8 O7.lt).alloc (.cells #[.int .u32 (rg rs' 0), .int .u32 (rg rs' 1), .int .u32 (rg rs' 2), .int .u32 (rg rs' 3), .int .u32 (rg rs' 4), .int .u32 (rg rs' 5), .int .u32 (rg rs' 6), .int .u32 (rg rs' 7), .int .u32 (rg rs' 8), .int .u32 (rg rs' 9), .int .u32 (rg rs' 10), .int .u32 (rg rs' 11), .int .u32 (rg rs' 12)] 37)
      have W8 := (W7.below b8).alloc (.cells #[.int .u32 (rg rs' 0), .int .u32 (rg rs' 1), .int .u32 (rg rs' 2), .int .u32 (rg rs' 3), .int .u32 (rg rs' 4), .int .u32 (rg rs' 5), .int .u32 (rg rs' 6), .int .u32 (rg rs' 7), .int .u32 (rg rs' 8), .int .u32 (rg rs' 9), .int .u32 (rg rs' 10), .int .u32 (rg rs' 11), .int .u32 (rg rs' 12)] 37)
      have N8 := box_file w8 rs' F7.len
      have s8 := (s7.below b8).alloc (.cells #[.int .u32 (rg rs' 0), .int .u32 (rg rs' 1), .int .u32 (rg rs' 2), .int .u32 (rg rs' 3), .int .u32 (rg rs' 4), .int .u32 (rg rs' 5), .int .u32 (rg rs' 6), .int .u32 (rg rs' 7), .int .u32 (rg rs' 8), .int .u32 (rg rs' 9), .int .u32 (rg rs' 10), .int .u32 (rg rs' 11), .int .u32 (rg rs' 12)] 37)
      have F8 := (F7.below b8).alloc (.cells #[.int .u32 (rg rs' 0), .int .u32 (rg rs' 1), .int .u32 (rg rs' 2), .int .u32 (rg rs' 3), .int .u32 (rg rs' 4), .int .u32 (rg rs' 5), .int .u32 (rg rs' 6), .int .u32 (rg rs' 7), .int .u32 (rg rs' 8), .int .u32 (rg rs' 9), .int .u32 (rg rs' 10), .int .u32 (rg rs' 11), .int .u32 (rg rs' 12)] 37)
      have A8 := (A7.below b8 A7.lt).alloc (.cells #[.int .u32 (rg rs' 0), .int .u32 (rg rs' 1), .int .u32 (rg rs' 2), .int .u32 (rg rs' 3), .int .u32 (rg rs' 4), .int .u32 (rg rs' 5), .int .u32 (rg rs' 6), .int .u32 (rg rs' 7), .int .u32 (rg rs' 8), .int .u32 (rg rs' 9), .int .u32 (rg rs' 10), .int .u32 (rg rs' 11), .int .u32 (rg rs' 12)] 37)
      have B8 := (bthen B7 b8).alloc (bthen B7 b8).size (.cells #[.int .u32 (rg rs' 0), .int .u32 (rg rs' 1), .int .u32 (rg rs' 2), .int .u32 (rg rs' 3), .int .u32 (rg rs' 4), .int .u32 (rg rs' 5), .int .u32 (rg rs' 6), .int .u32 (rg rs' 7), .int .u32 (rg rs' 8), .int .u32 (rg rs' 9), .int .u32 (rg rs' 10), .int .u32 (rg rs' 11), .int .u32 (rg rs' 12)] 37)
      (have o0 : ((w8.alloc (.cells #[.int .u32 (rg rs' 0), .int .u32 (rg rs' 1), .int .u32 (rg rs' 2), .int .u32 (rg rs' 3), .int .u32 (rg rs' 4), .int .u32 (rg rs' 5), .int .u32 (rg rs' 6), .int .u32 (rg rs' 7), .int .u32 (rg rs' 8), .int .u32 (rg rs' 9), .int .u32 (rg rs' 10), .int .u32 (rg rs' 11), .int .u32 (rg rs' 12)] 37))).cell? ⟨wr.heap.size, 0, none⟩ = some (.int .i64 o.kind) := (O8).cell 0; have o1 : ((w8.alloc (.cells #[.int .u32 (rg rs' 0), .int .u32 (rg rs' 1), .int .u32 (rg rs' 2), .int .u32 (rg rs' 3), .int .u32 (rg rs' 4), .int .u32 (rg rs' 5), .int .u32 (rg rs' 6), .int .u32 (rg rs' 7), .int .u32 (rg rs' 8), .int .u32 (rg rs' 9), .int .u32 (rg rs' 10), .int .u32 (rg rs' 11), .int .u32 (rg rs' 12)] 37))).cell? ⟨wr.heap.size, 1, none⟩ = some (.int .i64 o.t.crn) := (O8).cell 1; have o2 : ((w8.alloc (.cells #[.int .u32 (rg rs' 0), .int .u32 (rg rs' 1), .int .u32 (rg rs' 2), .int .u32 (rg rs' 3), .int .u32 (rg rs' 4), .int .u32 (rg rs' 5), .int .u32 (rg rs' 6), .int .u32 (rg rs' 7), .int .u32 (rg rs' 8), .int .u32 (rg rs' 9), .int .u32 (rg rs' 10), .int .u32 (rg rs' 11), .int .u32 (rg rs' 12)] 37))).cell? ⟨wr.heap.size, 2, none⟩ = some (.int .i64 o.t.op1) := (O8).cell 2; have o3 : ((w8.alloc (.cells #[.int .u32 (rg rs' 0), .int .u32 (rg rs' 1), .int .u32 (rg rs' 2), .int .u32 (rg rs' 3), .int .u32 (rg rs' 4), .int .u32 (rg rs' 5), .int .u32 (rg rs' 6), .int .u32 (rg rs' 7), .int .u32 (rg rs' 8), .int .u32 (rg rs' 9), .int .u32 (rg rs' 10), .int .u32 (rg rs' 11), .int .u32 (rg rs' 12)] 37))).cell? ⟨wr.heap.size, 3, none⟩ = some (.int .i64 o.t.crm) := (O8).cell 3; have o4 : ((w8.alloc (.cells #[.int .u32 (rg rs' 0), .int .u32 (rg rs' 1), .int .u32 (rg rs' 2), .int .u32 (rg rs' 3), .int .u32 (rg rs' 4), .int .u32 (rg rs' 5), .int .u32 (rg rs' 6), .int .u32 (rg rs' 7), .int .u32 (rg rs' 8), .int .u32 (rg rs' 9), .int .u32 (rg rs' 10), .int .u32 (rg rs' 11), .int .u32 (rg rs' 12)] 37))).cell? ⟨wr.heap.size, 4, none⟩ = some (.int .i64 o.t.op2) := (O8).cell 4; have o5 : ((w8.alloc (.cells #[.int .u32 (rg rs' 0), .int .u32 (rg rs' 1), .int .u32 (rg rs' 2), .int .u32 (rg rs' 3), .int .u32 (rg rs' 4), .int .u32 (rg rs' 5), .int .u32 (rg rs' 6), .int .u32 (rg rs' 7), .int .u32 (rg rs' 8), .int .u32 (rg rs' 9), .int .u32 (rg rs' 10), .int .u32 (rg rs' 11), .int .u32 (rg rs' 12)] 37))).cell? ⟨wr.heap.size, 5, none⟩ = some (.bool o.priv) := (O8).cell 5; have o6 : ((w8.alloc (.cells #[.int .u32 (rg rs' 0), .int .u32 (rg rs' 1), .int .u32 (rg rs' 2), .int .u32 (rg rs' 3), .int .u32 (rg rs' 4), .int .u32 (rg rs' 5), .int .u32 (rg rs' 6), .int .u32 (rg rs' 7), .int .u32 (rg rs' 8), .int .u32 (rg rs' 9), .int .u32 (rg rs' 10), .int .u32 (rg rs' 11), .int .u32 (rg rs' 12)] 37))).cell? ⟨wr.heap.size, 6, none⟩ = some (.int .u32 o.word) := (O8).cell 6; have o7 : ((w8.alloc (.cells #[.int .u32 (rg rs' 0), .int .u32 (rg rs' 1), .int .u32 (rg rs' 2), .int .u32 (rg rs' 3), .int .u32 (rg rs' 4), .int .u32 (rg rs' 5), .int .u32 (rg rs' 6), .int .u32 (rg rs' 7), .int .u32 (rg rs' 8), .int .u32 (rg rs' 9), .int .u32 (rg rs' 10), .int .u32 (rg rs' 11), .int .u32 (rg rs' 12)] 37))).cell? ⟨wr.heap.size, 7, none⟩ = some (.int .i64 o.reg) := (O8).cell 7)
      go_wp2_with fail
      refine (RES.out _ s8).mono ?_
      rintro e w9 ⟨rfl, b9⟩
      clear o0 o1 o2 o3 o4 o5 o6 o7
      have O9 := O8.below b9 O8.lt
      have W9 := W8.below b9
      have N9 := N8.below b9
      have s9 := s8.below b9
      have F9 := F8.below b9
      have A9 := A8.below b9 A8.lt
      have B9 := bthen B8 b9
      have hfb6 : fb ≠ w6.heap.size := by have := (F5.alloc (.cells #[.int .i64 o.kind, .int .i64 o.t.crn, .int .i64 o.t.op1, .int .i64 o.t.crm, .int .i64 o.t.op2, .bool o.priv, .int .u32 o.word, .int .i64 o.reg] 34)).b.lt; simp at this; have := b6.size; simp at this; omega
      have hfb8 : fb ≠ w8.heap.size := by have := F7.b.lt; have := b8.size; omega
      obtain ⟨ob, hob⟩ : ∃ ob, wr.heap.size = ob := ⟨_, rfl⟩
      obtain ⟨wb, hwb⟩ : ∃ wb, w6.heap.size = wb := ⟨_, rfl⟩
      obtain ⟨ab, hab⟩ : ∃ ab, w7.heap.size = ab := ⟨_, rfl⟩
      obtain ⟨nb, hnb⟩ : ∃ nb, w8.heap.size = nb := ⟨_, rfl⟩
      rw [hob] at O9 hfl
      rw [hwb] at W9 hfb6
      rw [hab] at A9
      rw [hnb] at N9 hfb8
      simp only [hob, hwb, hab, hnb]
      clear hob hwb hab hnb O8 W8 N8 s8 F8 A8 B8 b9 O7 W7 A7 s7 F7 B7 b8 g7 O6 W6 z6 s6 F6 B6 b6 s5 F5 B5 c0 c1 c2 c3 c4 c5 c6 c7
      have hact := neq_act0
      (have o0 : (w9).cell? ⟨ob, 0, none⟩ = some (.int .i64 o.kind) := (O9).cell 0; have o1 : (w9).cell? ⟨ob, 1, none⟩ = some (.int .i64 o.t.crn) := (O9).cell 1; have o2 : (w9).cell? ⟨ob, 2, none⟩ = some (.int .i64 o.t.op1) := (O9).cell 2; have o3 : (w9).cell? ⟨ob, 3, none⟩ = some (.int .i64 o.t.crm) := (O9).cell 3; have o4 : (w9).cell? ⟨ob, 4, none⟩ = some (.int .i64 o.t.op2) := (O9).cell 4; have o5 : (w9).cell? ⟨ob, 5, none⟩ = some (.bool o.priv) := (O9).cell 5; have o6 : (w9).cell? ⟨ob, 6, none⟩ = some (.int .u32 o.word) := (O9).cell 6; have o7 : (w9).cell? ⟨ob, 7, none⟩ = some (.int .i64 o.reg) := (O9).cell 7)
      (have d0 : (w9).cell? ⟨ab, 0, none⟩ = some (.int .i64 a0) := (A9).cell 0; have d1 : (w9).cell? ⟨ab, 1, none⟩ = some (.int .i64 a1) := (A9).cell 1; have d2 : (w9).cell? ⟨ab, 2, none⟩ = some (.int .u32 a2) := (A9).cell 2; have d3 : (w9).cell? ⟨ab, 3, none⟩ = some (.int .i64 a3) := (A9).cell 3; have d4 : (w9).cell? ⟨ab, 4, none⟩ = some (.int .u32 a4) := (A9).cell 4; have d5 : (w9).cell? ⟨ab, 5, none⟩ = some (.bool a5) := (A9).cell 5; have d6 : (w9).cell? ⟨ab, 6, none⟩ = some (.bool a6) := (A9).cell 6)
      rcases TU.out with ⟨i, hi, hk2, hr, hee, ht, ht2⟩ | ⟨i, hi, hk4, hr, hee, ht, ht2⟩ | ⟨ht, h2, h4, ha0⟩
      · rw [AQ.out.2.2] at ht
        rw [AQ.out.2.1] at hee
        subst hee
        have RX0 : rg rs' i = keep i o.word ∧ ∀ j, i ≠ j → rg rs' j = rg rs j := ⟨by rw [ht, rg_set _ _ _ _ (by rw [hl13]; exact hi), if_pos rfl], fun j hj => by rw [ht, rg_set _ _ _ _ (by rw [hl13]; exact hi), if_neg hj]⟩
        have AX0 : bits .and .u32 (keep i o.word) o.word = keep i o.word := (and_and o.word (keptOf i) HC.out.w0 HC.out.w1 (kept_b i hi).1 (kept_b i hi).2).2.1
        have PS0 : rs'.set i (keep i (keep i o.word)) = rs' := by rw [keep_idem i hi _ HC.out.w0 HC.out.w1, ht, set_set]
        have D20 : (doesR o rs').2.2 = rs' := by rw [ht]; exact ht2
        obtain ⟨e0, e1, e2, e3, e4, e5, e6, hea⟩ := doesR_act o rs'
        obtain ⟨ef, hef⟩ : ∃ ef, (doesR o rs').2.1 = ef := ⟨_, rfl⟩
        have DO20 := fun W hW hF => does_is o HC.out fb rs' W hW hF
        unfold DoesPost at DO20
        rw [hea, hef, D20] at DO20
        have DO2 := Lib.hid DO20
        have PT0 := fun W hW hF => Put_yes fb rs' i hi (keep i o.word) W hW hF
        rw [PS0] at PT0
        obtain ⟨x, hx⟩ : ∃ x, keep i o.word = x := ⟨_, rfl⟩
        rw [hx] at RX0 AX0 PT0
        have RX := Lib.hid RX0
        have AX := Lib.hid AX0
        have PT := Lib.hid PT0
        clear ht ht2 hx RX0 AX0 PS0 D20 DO20 PT0 hea hef
        have i2 : (0 : Int) ≤ ↑i := by omega
        have i3 : (↑i : Int) ≤ 12 := by omega
        have i4 : (↑i : Int) < 13 := by omega
        have hok1 : okb = true := by rw [HRI.out.1, hr]; rfl
        have hr1 := HRI.out.2 i hr
        subst hok1 hr1
        have t2 : (o.kind == 2) = true := by simp [hk2]
        have t4 : (o.kind == 4) = false := by simp [hk2]
        clear hr hk2
        go_wp2_with (go_at_call 16; refine (no8_is _ _).mono ?_; rintro e w10 ⟨rfl, rfl⟩)
        clear o0 o1 o2 o3 o4 o5 o6 o7 d0 d1 d2 d3 d4 d5 d6 hact
        go_loopw [13] (fun v13 wq => ∃ j : Nat, j ≤ 13 ∧ v13 = .int .i64 j ∧ Rul wq ∧ IsFile wq 63 fb rs' ∧ IsFile wq 37 wb rs ∧ IsFile wq 37 nb rs' ∧ Blok wq ob 34 (#[.int .i64 o.kind, .int .i64 o.t.crn, .int .i64 o.t.op1, .int .i64 o.t.crm, .int .i64 o.t.op2, .bool o.priv, .int .u32 o.word, .int .i64 o.reg] : Array Value).toList ∧ Below w.heap.size w wq) (fun v13 _ => 13 - (intOf v13).toNat)
        case atStart => exact ⟨0, Nat.zero_le _, rfl, s9, F9, W9, N9, O9, B9⟩
        case round =>
          clear s9 F9 W9 N9 O9 A9 B9
          obtain ⟨j, hj, rfl, s10, F10, W10, N10, O10, B10⟩ := hrel
          by_cases hlj : j < 13
          · have cw := W10.cell j hlj
            have cn := N10.cell j hlj
            have j0 : (0 : Int) ≤ ↑j := by omega
            have j1 : (↑j : Int) < 13 := by omega
            by_cases hji : j = i
            · subst hji
              go_wp2_with fail
              go_quiet (fail)
              go_wp2
              go_roundw
              case rel => exact ⟨j + 1, by omega, by go_num, s10.below (bdrewN (Below.refl _ _) _), F10.drewN _, W10.drewN _, N10.drewN _, O10.drewN _, bdrewN B10 _⟩
              case measure => simp [intOf]; omega
            · have jn : ((↑j : Int) != ↑i) = true := by rw [bne_iff_ne]; omega
              rw [RX.out.2 j (fun e => hji e.symm)] at cn
              clear hji
              go_wp2_with fail
              go_quiet (fail)
              go_wp2
              go_roundw
              case rel => exact ⟨j + 1, by omega, by go_num, s10.below (bdrewN (Below.refl _ _) _), F10.drewN _, W10.drewN _, N10.drewN _, O10.drewN _, bdrewN B10 _⟩
              case measure => simp [intOf]; omega
          · have cx := N10.cell i hi
            rw [RX.out.1] at cx
            (have o0 : (wr).cell? ⟨ob, 0, none⟩ = some (.int .i64 o.kind) := (O10).cell 0; have o1 : (wr).cell? ⟨ob, 1, none⟩ = some (.int .i64 o.t.crn) := (O10).cell 1; have o2 : (wr).cell? ⟨ob, 2, none⟩ = some (.int .i64 o.t.op1) := (O10).cell 2; have o3 : (wr).cell? ⟨ob, 3, none⟩ = some (.int .i64 o.t.crm) := (O10).cell 3; have o4 : (wr).cell? ⟨ob, 4, none⟩ = some (.int .i64 o.t.op2) := (O10).cell 4; have o5 : (wr).cell? ⟨ob, 5, none⟩ = some (.bool o.priv) := (O10).cell 5; have o6 : (wr).cell? ⟨ob, 6, none⟩ = some (.int .u32 o.word) := (O10).cell 6; have o7 : (wr).cell? ⟨ob, 7, none⟩ = some (.int .i64 o.reg) := (O10).cell 7)
            have ax := AX.out
            obtain rfl : j = 13 := by omega
            go_wp2_with fail
            go_quiet (fail)
            obtain ⟨wx, hwx⟩ : ∃ wx, wr.drewN nq = wx := ⟨_, rfl⟩
            have s11 : Rul wx := by rw [← hwx]; exact s10.below (bdrewN (Below.refl _ _) _)
            have F11 : IsFile wx 63 fb rs' := by rw [← hwx]; exact F10.drewN _
            have N11 : IsFile wx 37 nb rs' := by rw [← hwx]; exact N10.drewN _
            have O11 : Blok wx ob 34 (#[.int .i64 o.kind, .int .i64 o.t.crn, .int .i64 o.t.op1, .int .i64 o.t.crm, .int .i64 o.t.op2, .bool o.priv, .int .u32 o.word, .int .i64 o.reg] : Array Value).toList := by rw [← hwx]; exact O10.drewN _
            have B11 : Below w.heap.size w wx := by rw [← hwx]; exact bdrewN B10 _
            rw [hwx]
            clear hwx o0 o1 o2 o3 o4 o5 o6 o7 cx ax s10 F10 W10 N10 O10 B10
            (have o0 : (wx).cell? ⟨ob, 0, none⟩ = some (.int .i64 o.kind) := (O11).cell 0; have o1 : (wx).cell? ⟨ob, 1, none⟩ = some (.int .i64 o.t.crn) := (O11).cell 1; have o2 : (wx).cell? ⟨ob, 2, none⟩ = some (.int .i64 o.t.op1) := (O11).cell 2; have o3 : (wx).cell? ⟨ob, 3, none⟩ = some (.int .i64 o.t.crm) := (O11).cell 3; have o4 : (wx).cell? ⟨ob, 4, none⟩ = some (.int .i64 o.t.op2) := (O11).cell 4; have o5 : (wx).cell? ⟨ob, 5, none⟩ = some (.bool o.priv) := (O11).cell 5; have o6 : (wx).cell? ⟨ob, 6, none⟩ = some (.int .u32 o.word) := (O11).cell 6; have o7 : (wx).cell? ⟨ob, 7, none⟩ = some (.int .i64 o.reg) := (O11).cell 7)
            go_wp2_with fail
            refine (DO2.out _ s11 F11).mono ?_
            rintro e w12 ⟨rfl, F12, g12⟩
            have s12 := s11.grown g12 (by intro e; exact hfr (Option.some.inj e))
            have N12 := N11.far g12 (by intro e; exact hfb8 (Option.some.inj e))
            have B12 := bel_one hfb B11 g12
            clear o0 o1 o2 o3 o4 o5 o6 o7 s11 F11 N11 O11 B11 g12
            have hneq := neq_regs rs'
            unfold rgA at hneq
            have nS : ∀ j (_ : j < 13), ∀ w', GrownS w12 w' (fun b => b = fb) → w'.cell? ⟨nb, j, none⟩ = some (.int .u32 (rg rs' j)) := fun j hj w' g => (IsFile.mk (N12.b.gs g (fun e => hfb8 e.symm)) N12.len).cell j hj
            have ni := nS i hi
            rw [RX.out.1] at ni
            have n0 := nS 0 (by omega)
            have m0 := nS 0 (by omega) w12 (GrownS.refl _ _)
            have n1 := nS 1 (by omega)
            have m1 := nS 1 (by omega) w12 (GrownS.refl _ _)
            have n2 := nS 2 (by omega)
            have m2 := nS 2 (by omega) w12 (GrownS.refl _ _)
            have n3 := nS 3 (by omega)
            have m3 := nS 3 (by omega) w12 (GrownS.refl _ _)
            have n4 := nS 4 (by omega)
            have m4 := nS 4 (by omega) w12 (GrownS.refl _ _)
            have n5 := nS 5 (by omega)
            have m5 := nS 5 (by omega) w12 (GrownS.refl _ _)
            have n6 := nS 6 (by omega)
            have m6 := nS 6 (by omega) w12 (GrownS.refl _ _)
            have n7 := nS 7 (by omega)
            have m7 := nS 7 (by omega) w12 (GrownS.refl _ _)
            have n8 := nS 8 (by omega)
            have m8 := nS 8 (by omega) w12 (GrownS.refl _ _)
            have n9 := nS 9 (by omega)
            have m9 := nS 9 (by omega) w12 (GrownS.refl _ _)
            have n10 := nS 10 (by omega)
            have m10 := nS 10 (by omega) w12 (GrownS.refl _ _)
            have n11 := nS 11 (by omega)
            have m11 := nS 11 (by omega) w12 (GrownS.refl _ _)
            have n12 := nS 12 (by omega)
            have m12 := nS 12 (by omega) w12 (GrownS.refl _ _)
            have mi := ni w12 (GrownS.refl _ _)
            clear nS
            go_wp2_with fail
            go_region_with (first
                | (go_at_call 13; (with_reducible refine (HNL.out _ F14).mono ?_); rintro e w15 ⟨rfl, b15⟩; have g15 : GrownS w12 w15 (fun b => b = fb) := g14.below b15; have F15 := F14.below b15; have s15 := s14.below b15)
                | (go_at_call 17; (with_reducible refine (PT.out _ s13 F13).mono ?_); rintro e w14 ⟨rfl, F14, gg14⟩; have g14 : GrownS w12 w14 (fun b => b = fb) := g13.one gg14 rfl; have s14 := s13.grown gg14 (by intro e; exact hfr (Option.some.inj e)))
                | (go_at_call 16; refine (no8_is _ _).mono ?_; rintro e w20 ⟨rfl, rfl⟩)
                | (go_at_call 13; (with_reducible refine (HNL.out _ F12.drew).mono ?_); rintro e w13 ⟨rfl, b13⟩; have g13 : GrownS w12 w13 (fun b => b = fb) := (GrownS.drew _ _).below b13; have F13 := F12.drew.below b13; have s13 := (s12.below (bdrew (Below.refl _ _))).below b13))
            all_goals
              go_wp2
              go_roundw
              case rel => exact ⟨k + 1, rs', by omega, by go_num, OK.out.1, OK.out.2, s15, F15, B12.trans (g15.bel B12.size (fun b hb => by have hb : b = fb := hb; omega))⟩
              case measure => simp [intOf]; omega
      · rw [AQ.out.2.2] at ht
        rw [AQ.out.2.1] at hee
        subst hee
        have RX0 : rg rs' i = keep i o.word ∧ ∀ j, i ≠ j → rg rs' j = rg rs j := ⟨by rw [ht, rg_set _ _ _ _ (by rw [hl13]; exact hi), if_pos rfl], fun j hj => by rw [ht, rg_set _ _ _ _ (by rw [hl13]; exact hi), if_neg hj]⟩
        have AX0 : bits .and .u32 (keep i o.word) o.word = keep i o.word := (and_and o.word (keptOf i) HC.out.w0 HC.out.w1 (kept_b i hi).1 (kept_b i hi).2).2.1
        have PS0 : rs'.set i (keep i (keep i o.word)) = rs' := by rw [keep_idem i hi _ HC.out.w0 HC.out.w1, ht, set_set]
        have D20 : (doesR o rs').2.2 = rs' := by rw [ht]; exact ht2
        obtain ⟨e0, e1, e2, e3, e4, e5, e6, hea⟩ := doesR_act o rs'
        obtain ⟨ef, hef⟩ : ∃ ef, (doesR o rs').2.1 = ef := ⟨_, rfl⟩
        have DO20 := fun W hW hF => does_is o HC.out fb rs' W hW hF
        unfold DoesPost at DO20
        rw [hea, hef, D20] at DO20
        have DO2 := Lib.hid DO20
        have PT0 := fun W hW hF => Put_yes fb rs' i hi (keep i o.word) W hW hF
        rw [PS0] at PT0
        obtain ⟨x, hx⟩ : ∃ x, keep i o.word = x := ⟨_, rfl⟩
        rw [hx] at RX0 AX0 PT0
        have RX := Lib.hid RX0
        have AX := Lib.hid AX0
        have PT := Lib.hid PT0
        clear ht ht2 hx RX0 AX0 PS0 D20 DO20 PT0 hea hef
        have i2 : (0 : Int) ≤ ↑i := by omega
        have i3 : (↑i : Int) ≤ 12 := by omega
        have i4 : (↑i : Int) < 13 := by omega
        have t2 : (o.kind == 2) = false := by simp [hk4]
        have t4 : (o.kind == 4) = true := by simp [hk4]
        rw [hr] at o7
        clear hr hk4
        go_wp2_with (go_at_call 16; refine (no8_is _ _).mono ?_; rintro e w10 ⟨rfl, rfl⟩)
        clear o0 o1 o2 o3 o4 o5 o6 o7 d0 d1 d2 d3 d4 d5 d6 hact
        go_loopw [13] (fun v13 wq => ∃ j : Nat, j ≤ 13 ∧ v13 = .int .i64 j ∧ Rul wq ∧ IsFile wq 63 fb rs' ∧ IsFile wq 37 wb rs ∧ IsFile wq 37 nb rs' ∧ Blok wq ob 34 (#[.int .i64 o.kind, .int .i64 o.t.crn, .int .i64 o.t.op1, .int .i64 o.t.crm, .int .i64 o.t.op2, .bool o.priv, .int .u32 o.word, .int .i64 o.reg] : Array Value).toList ∧ Below w.heap.size w wq) (fun v13 _ => 13 - (intOf v13).toNat)
        case atStart => exact ⟨0, Nat.zero_le _, rfl, s9, F9, W9, N9, O9, B9⟩
        case round =>
          clear s9 F9 W9 N9 O9 A9 B9
          obtain ⟨j, hj, rfl, s10, F10, W10, N10, O10, B10⟩ := hrel
          by_cases hlj : j < 13
          · have cw := W10.cell j hlj
            have cn := N10.cell j hlj
            have j0 : (0 : Int) ≤ ↑j := by omega
            have j1 : (↑j : Int) < 13 := by omega
            by_cases hji : j = i
            · subst hji
              go_wp2_with fail
              go_quiet (fail)
              go_wp2
              go_roundw
              case rel => exact ⟨j + 1, by omega, by go_num, s10.below (bdrewN (Below.refl _ _) _), F10.drewN _, W10.drewN _, N10.drewN _, O10.drewN _, bdrewN B10 _⟩
              case measure => simp [intOf]; omega
            · have jn : ((↑j : Int) != ↑i) = true := by rw [bne_iff_ne]; omega
              rw [RX.out.2 j (fun e => hji e.symm)] at cn
              clear hji
              go_wp2_with fail
              go_quiet (fail)
              go_wp2
              go_roundw
              case rel => exact ⟨j + 1, by omega, by go_num, s10.below (bdrewN (Below.refl _ _) _), F10.drewN _, W10.drewN _, N10.drewN _, O10.drewN _, bdrewN B10 _⟩
              case measure => simp [intOf]; omega
          · have cx := N10.cell i hi
            rw [RX.out.1] at cx
            (have o0 : (wr).cell? ⟨ob, 0, none⟩ = some (.int .i64 o.kind) := (O10).cell 0; have o1 : (wr).cell? ⟨ob, 1, none⟩ = some (.int .i64 o.t.crn) := (O10).cell 1; have o2 : (wr).cell? ⟨ob, 2, none⟩ = some (.int .i64 o.t.op1) := (O10).cell 2; have o3 : (wr).cell? ⟨ob, 3, none⟩ = some (.int .i64 o.t.crm) := (O10).cell 3; have o4 : (wr).cell? ⟨ob, 4, none⟩ = some (.int .i64 o.t.op2) := (O10).cell 4; have o5 : (wr).cell? ⟨ob, 5, none⟩ = some (.bool o.priv) := (O10).cell 5; have o6 : (wr).cell? ⟨ob, 6, none⟩ = some (.int .u32 o.word) := (O10).cell 6; have o7 : (wr).cell? ⟨ob, 7, none⟩ = some (.int .i64 o.reg) := (O10).cell 7)
            have ax := AX.out
            obtain rfl : j = 13 := by omega
            go_wp2_with fail
            go_quiet (fail)
            obtain ⟨wx, hwx⟩ : ∃ wx, wr.drewN nq = wx := ⟨_, rfl⟩
            have s11 : Rul wx := by rw [← hwx]; exact s10.below (bdrewN (Below.refl _ _) _)
            have F11 : IsFile wx 63 fb rs' := by rw [← hwx]; exact F10.drewN _
            have N11 : IsFile wx 37 nb rs' := by rw [← hwx]; exact N10.drewN _
            have O11 : Blok wx ob 34 (#[.int .i64 o.kind, .int .i64 o.t.crn, .int .i64 o.t.op1, .int .i64 o.t.crm, .int .i64 o.t.op2, .bool o.priv, .int .u32 o.word, .int .i64 o.reg] : Array Value).toList := by rw [← hwx]; exact O10.drewN _
            have B11 : Below w.heap.size w wx := by rw [← hwx]; exact bdrewN B10 _
            rw [hwx]
            clear hwx o0 o1 o2 o3 o4 o5 o6 o7 cx ax s10 F10 W10 N10 O10 B10
            (have o0 : (wx).cell? ⟨ob, 0, none⟩ = some (.int .i64 o.kind) := (O11).cell 0; have o1 : (wx).cell? ⟨ob, 1, none⟩ = some (.int .i64 o.t.crn) := (O11).cell 1; have o2 : (wx).cell? ⟨ob, 2, none⟩ = some (.int .i64 o.t.op1) := (O11).cell 2; have o3 : (wx).cell? ⟨ob, 3, none⟩ = some (.int .i64 o.t.crm) := (O11).cell 3; have o4 : (wx).cell? ⟨ob, 4, none⟩ = some (.int .i64 o.t.op2) := (O11).cell 4; have o5 : (wx).cell? ⟨ob, 5, none⟩ = some (.bool o.priv) := (O11).cell 5; have o6 : (wx).cell? ⟨ob, 6, none⟩ = some (.int .u32 o.word) := (O11).cell 6; have o7 : (wx).cell? ⟨ob, 7, none⟩ = some (.int .i64 o.reg) := (O11).cell 7)
            go_wp2_with fail
            refine (DO2.out _ s11 F11).mono ?_
            rintro e w12 ⟨rfl, F12, g12⟩
            have s12 := s11.grown g12 (by intro e; exact hfr (Option.some.inj e))
            have N12 := N11.far g12 (by intro e; exact hfb8 (Option.some.inj e))
            have B12 := bel_one hfb B11 g12
            clear o0 o1 o2 o3 o4 o5 o6 o7 s11 F11 N11 O11 B11 g12
            have hneq := neq_regs rs'
            unfold rgA at hneq
            have nS : ∀ j (_ : j < 13), ∀ w', GrownS w12 w' (fun b => b = fb) → w'.cell? ⟨nb, j, none⟩ = some (.int .u32 (rg rs' j)) := fun j hj w' g => (IsFile.mk (N12.b.gs g (fun e => hfb8 e.symm)) N12.len).cell j hj
            have ni := nS i hi
            rw [RX.out.1] at ni
            have n0 := nS 0 (by omega)
            have m0 := nS 0 (by omega) w12 (GrownS.refl _ _)
            have n1 := nS 1 (by omega)
            have m1 := nS 1 (by omega) w12 (GrownS.refl _ _)
            have n2 := nS 2 (by omega)
            have m2 := nS 2 (by omega) w12 (GrownS.refl _ _)
            have n3 := nS 3 (by omega)
            have m3 := nS 3 (by omega) w12 (GrownS.refl _ _)
            have n4 := nS 4 (by omega)
            have m4 := nS 4 (by omega) w12 (GrownS.refl _ _)
            have n5 := nS 5 (by omega)
            have m5 := nS 5 (by omega) w12 (GrownS.refl _ _)
            have n6 := nS 6 (by omega)
            have m6 := nS 6 (by omega) w12 (GrownS.refl _ _)
            have n7 := nS 7 (by omega)
            have m7 := nS 7 (by omega) w12 (GrownS.refl _ _)
            have n8 := nS 8 (by omega)
            have m8 := nS 8 (by omega) w12 (GrownS.refl _ _)
            have n9 := nS 9 (by omega)
            have m9 := nS 9 (by omega) w12 (GrownS.refl _ _)
            have n10 := nS 10 (by omega)
            have m10 := nS 10 (by omega) w12 (GrownS.refl _ _)
            have n11 := nS 11 (by omega)
            have m11 := nS 11 (by omega) w12 (GrownS.refl _ _)
            have n12 := nS 12 (by omega)
            have m12 := nS 12 (by omega) w12 (GrownS.refl _ _)
            have mi := ni w12 (GrownS.refl _ _)
            clear nS
            go_wp2_with fail
            go_region_with (first
                | (go_at_call 13; (with_reducible refine (HNL.out _ F14).mono ?_); rintro e w15 ⟨rfl, b15⟩; have g15 : GrownS w12 w15 (fun b => b = fb) := g14.below b15; have F15 := F14.below b15; have s15 := s14.below b15)
                | (go_at_call 17; (with_reducible refine (PT.out _ s13 F13).mono ?_); rintro e w14 ⟨rfl, F14, gg14⟩; have g14 : GrownS w12 w14 (fun b => b = fb) := g13.one gg14 rfl; have s14 := s13.grown gg14 (by intro e; exact hfr (Option.some.inj e)))
                | (go_at_call 16; refine (no8_is _ _).mono ?_; rintro e w20 ⟨rfl, rfl⟩)
                | (go_at_call 13; (with_reducible refine (HNL.out _ F12.drew).mono ?_); rintro e w13 ⟨rfl, b13⟩; have g13 : GrownS w12 w13 (fun b => b = fb) := (GrownS.drew _ _).below b13; have F13 := F12.drew.below b13; have s13 := (s12.below (bdrew (Below.refl _ _))).below b13))
            all_goals
              go_wp2
              go_roundw
              case rel => exact ⟨k + 1, rs', by omega, by go_num, OK.out.1, OK.out.2, s15, F15, B12.trans (g15.bel B12.size (fun b hb => by have hb : b = fb := hb; omega))⟩
              case measure => simp [intOf]; omega
      · rw [AQ.out.2.2] at ht
        rw [AQ.out.2.1] at h2 h4 ha0
        rw [AQ.out.1] at ha0
        subst ht
        have cases6 : (((o.kind == 2) = true ∧ (o.kind == 4) = false ∧ okb = false ∧ ee = 0) ∨ ((o.kind == 2) = false ∧ (o.kind == 4) = false ∧ ee = 0)) ∨ (ee ≠ 0 ∧ (((o.kind == 2) = true ∧ (o.kind == 4) = false) ∨ ((o.kind == 2) = false ∧ (o.kind == 4) = true) ∨ ((o.kind == 2) = false ∧ (o.kind == 4) = false))) := by
          have hk1 := HRI.out.1
          by_cases k2 : o.kind = 2
          · by_cases e0 : ee = 0
            · cases hx : (regOf o.t).isSome
              · exact .inl (.inl ⟨by simp [k2], by simp [k2], by rw [hk1, hx], e0⟩)
              · have := h2 k2 hx; omega
            · exact .inr ⟨e0, .inl ⟨by simp [k2], by simp [k2]⟩⟩
          · by_cases k4 : o.kind = 4
            · have := h4 k4
              exact .inr ⟨by omega, .inr (.inl ⟨by simp [k4], by simp [k4]⟩)⟩
            · by_cases e0 : ee = 0
              · exact .inl (.inr ⟨by simp [k2], by simp [k4], e0⟩)
              · exact .inr ⟨e0, .inr (.inr ⟨by simp [k2], by simp [k4]⟩)⟩
        clear h2 h4
        rcases cases6 with (⟨t2, t4, rfl, rfl⟩ | ⟨t2, t4, rfl⟩) | ⟨e0, h⟩
        · clear ha0
          go_wp2_with (go_at_call 16; refine (no8_is _ _).mono ?_; rintro e w10 ⟨rfl, rfl⟩)
          clear o0 o1 o2 o3 o4 o5 o6 o7 d0 d1 d2 d3 d4 d5 d6 hact
          go_loopw [13] (fun v13 wq => ∃ j : Nat, j ≤ 13 ∧ v13 = .int .i64 j ∧ Rul wq ∧ IsFile wq 63 fb rs' ∧ IsFile wq 37 wb rs' ∧ IsFile wq 37 nb rs' ∧ Blok wq ob 34 (#[.int .i64 o.kind, .int .i64 o.t.crn, .int .i64 o.t.op1, .int .i64 o.t.crm, .int .i64 o.t.op2, .bool o.priv, .int .u32 o.word, .int .i64 o.reg] : Array Value).toList ∧ Below w.heap.size w wq) (fun v13 _ => 13 - (intOf v13).toNat)
          case atStart => exact ⟨0, Nat.zero_le _, rfl, s9, F9, W9, N9, O9, B9⟩
          case round =>
            clear s9 F9 W9 N9 O9 A9 B9
            obtain ⟨j, hj, rfl, s10, F10, W10, N10, O10, B10⟩ := hrel
            by_cases hlj : j < 13
            · have cw := W10.cell j hlj
              have cn := N10.cell j hlj
              have j0 : (0 : Int) ≤ ↑j := by omega
              have j1 : (↑j : Int) < 13 := by omega
              have jn : ((↑j : Int) != -1) = true := by rw [bne_iff_ne]; omega
              go_wp2_with fail
              go_quiet (fail)
              go_wp2
              go_roundw
              case rel => exact ⟨j + 1, by omega, by go_num, s10.below (bdrewN (Below.refl _ _) _), F10.drewN _, W10.drewN _, N10.drewN _, O10.drewN _, bdrewN B10 _⟩
              case measure => simp [intOf]; omega
            · go_wp2
              go_roundw
              case rel => exact ⟨k + 1, rs', by omega, by go_num, OK.out.1, OK.out.2, s10, F10, B10⟩
              case measure => simp [intOf]; omega
        · clear ha0
          go_wp2_with (go_at_call 16; refine (no8_is _ _).mono ?_; rintro e w10 ⟨rfl, rfl⟩)
          clear o0 o1 o2 o3 o4 o5 o6 o7 d0 d1 d2 d3 d4 d5 d6 hact
          go_loopw [13] (fun v13 wq => ∃ j : Nat, j ≤ 13 ∧ v13 = .int .i64 j ∧ Rul wq ∧ IsFile wq 63 fb rs' ∧ IsFile wq 37 wb rs' ∧ IsFile wq 37 nb rs' ∧ Blok wq ob 34 (#[.int .i64 o.kind, .int .i64 o.t.crn, .int .i64 o.t.op1, .int .i64 o.t.crm, .int .i64 o.t.op2, .bool o.priv, .int .u32 o.word, .int .i64 o.reg] : Array Value).toList ∧ Below w.heap.size w wq) (fun v13 _ => 13 - (intOf v13).toNat)
          case atStart => exact ⟨0, Nat.zero_le _, rfl, s9, F9, W9, N9, O9, B9⟩
          case round =>
            clear s9 F9 W9 N9 O9 A9 B9
            obtain ⟨j, hj, rfl, s10, F10, W10, N10, O10, B10⟩ := hrel
            by_cases hlj : j < 13
            · have cw := W10.cell j hlj
              have cn := N10.cell j hlj
              have j0 : (0 : Int) ≤ ↑j := by omega
              have j1 : (↑j : Int) < 13 := by omega
              have jn : ((↑j : Int) != -1) = true := by rw [bne_iff_ne]; omega
              go_wp2_with fail
              go_quiet (fail)
              go_wp2
              go_roundw
              case rel => exact ⟨j + 1, by omega, by go_num, s10.below (bdrewN (Below.refl _ _) _), F10.drewN _, W10.drewN _, N10.drewN _, O10.drewN _, bdrewN B10 _⟩
              case measure => simp [intOf]; omega
            · go_wp2
              go_roundw
              case rel => exact ⟨k + 1, rs', by omega, by go_num, OK.out.1, OK.out.2, s10, F10, B10⟩
              case measure => simp [intOf]; omega
        · have hz := ha0 e0
          unfold zactA at hz
          simp only [Array.mk.injEq, List.cons.injEq, Value.int.injEq, Value.bool.injEq, true_and, and_true] at hz
          obtain ⟨rfl, rfl, rfl, rfl, rfl, rfl, rfl⟩ := hz
          have e1 : (ee == 0) = false := by simp [e0]
          have e2 : (ee != 0) = true := by simp [e0]
          clear ha0 e0
          rcases h with ⟨t2, t4⟩ | ⟨t2, t4⟩ | ⟨t2, t4⟩
          · cases okb
            · go_wp2_with (go_at_call 16; refine (no8_is _ _).mono ?_; rintro e w10 ⟨rfl, rfl⟩)
              clear o0 o1 o2 o3 o4 o5 o6 o7 d0 d1 d2 d3 d4 d5 d6 hact
              go_loopw [13] (fun v13 wq => ∃ j : Nat, j ≤ 13 ∧ v13 = .int .i64 j ∧ Rul wq ∧ IsFile wq 63 fb rs' ∧ IsFile wq 37 wb rs' ∧ IsFile wq 37 nb rs' ∧ Blok wq ob 34 (#[.int .i64 o.kind, .int .i64 o.t.crn, .int .i64 o.t.op1, .int .i64 o.t.crm, .int .i64 o.t.op2, .bool o.priv, .int .u32 o.word, .int .i64 o.reg] : Array Value).toList ∧ Below w.heap.size w wq) (fun v13 _ => 13 - (intOf v13).toNat)
              case atStart => exact ⟨0, Nat.zero_le _, rfl, s9, F9, W9, N9, O9, B9⟩
              case round =>
                clear s9 F9 W9 N9 O9 A9 B9
                obtain ⟨j, hj, rfl, s10, F10, W10, N10, O10, B10⟩ := hrel
                by_cases hlj : j < 13
                · have cw := W10.cell j hlj
                  have cn := N10.cell j hlj
                  have j0 : (0 : Int) ≤ ↑j := by omega
                  have j1 : (↑j : Int) < 13 := by omega
                  have jn : ((↑j : Int) != -1) = true := by rw [bne_iff_ne]; omega
                  go_wp2_with fail
                  go_quiet (fail)
                  go_wp2
                  go_roundw
                  case rel => exact ⟨j + 1, by omega, by go_num, s10.below (bdrewN (Below.refl _ _) _), F10.drewN _, W10.drewN _, N10.drewN _, O10.drewN _, bdrewN B10 _⟩
                  case measure => simp [intOf]; omega
                · go_wp2
                  go_roundw
                  case rel => exact ⟨k + 1, rs', by omega, by go_num, OK.out.1, OK.out.2, s10, F10, B10⟩
                  case measure => simp [intOf]; omega
            · go_wp2_with (go_at_call 16; refine (no8_is _ _).mono ?_; rintro e w10 ⟨rfl, rfl⟩)
              clear o0 o1 o2 o3 o4 o5 o6 o7 d0 d1 d2 d3 d4 d5 d6 hact
              go_loopw [13] (fun v13 wq => ∃ j : Nat, j ≤ 13 ∧ v13 = .int .i64 j ∧ Rul wq ∧ IsFile wq 63 fb rs' ∧ IsFile wq 37 wb rs' ∧ IsFile wq 37 nb rs' ∧ Blok wq ob 34 (#[.int .i64 o.kind, .int .i64 o.t.crn, .int .i64 o.t.op1, .int .i64 o.t.crm, .int .i64 o.t.op2, .bool o.priv, .int .u32 o.word, .int .i64 o.reg] : Array Value).toList ∧ Below w.heap.size w wq) (fun v13 _ => 13 - (intOf v13).toNat)
              case atStart => exact ⟨0, Nat.zero_le _, rfl, s9, F9, W9, N9, O9, B9⟩
              case round =>
                clear s9 F9 W9 N9 O9 A9 B9
                obtain ⟨j, hj, rfl, s10, F10, W10, N10, O10, B10⟩ := hrel
                by_cases hlj : j < 13
                · have cw := W10.cell j hlj
                  have cn := N10.cell j hlj
                  have j0 : (0 : Int) ≤ ↑j := by omega
                  have j1 : (↑j : Int) < 13 := by omega
                  have jn : ((↑j : Int) != -1) = true := by rw [bne_iff_ne]; omega
                  go_wp2_with fail
                  go_quiet (fail)
                  go_wp2
                  go_roundw
                  case rel => exact ⟨j + 1, by omega, by go_num, s10.below (bdrewN (Below.refl _ _) _), F10.drewN _, W10.drewN _, N10.drewN _, O10.drewN _, bdrewN B10 _⟩
                  case measure => simp [intOf]; omega
                · go_wp2
                  go_roundw
                  case rel => exact ⟨k + 1, rs', by omega, by go_num, OK.out.1, OK.out.2, s10, F10, B10⟩
                  case measure => simp [intOf]; omega
          · go_wp2_with (go_at_call 16; refine (no8_is _ _).mono ?_; rintro e w10 ⟨rfl, rfl⟩)
            clear o0 o1 o2 o3 o4 o5 o6 o7 d0 d1 d2 d3 d4 d5 d6 hact
            go_loopw [13] (fun v13 wq => ∃ j : Nat, j ≤ 13 ∧ v13 = .int .i64 j ∧ Rul wq ∧ IsFile wq 63 fb rs' ∧ IsFile wq 37 wb rs' ∧ IsFile wq 37 nb rs' ∧ Blok wq ob 34 (#[.int .i64 o.kind, .int .i64 o.t.crn, .int .i64 o.t.op1, .int .i64 o.t.crm, .int .i64 o.t.op2, .bool o.priv, .int .u32 o.word, .int .i64 o.reg] : Array Value).toList ∧ Below w.heap.size w wq) (fun v13 _ => 13 - (intOf v13).toNat)
            case atStart => exact ⟨0, Nat.zero_le _, rfl, s9, F9, W9, N9, O9, B9⟩
            case round =>
              clear s9 F9 W9 N9 O9 A9 B9
              obtain ⟨j, hj, rfl, s10, F10, W10, N10, O10, B10⟩ := hrel
              by_cases hlj : j < 13
              · have cw := W10.cell j hlj
                have cn := N10.cell j hlj
                have j0 : (0 : Int) ≤ ↑j := by omega
                have j1 : (↑j : Int) < 13 := by omega
                have jn : ((↑j : Int) != -1) = true := by rw [bne_iff_ne]; omega
                go_wp2_with fail
                go_quiet (fail)
                go_wp2
                go_roundw
                case rel => exact ⟨j + 1, by omega, by go_num, s10.below (bdrewN (Below.refl _ _) _), F10.drewN _, W10.drewN _, N10.drewN _, O10.drewN _, bdrewN B10 _⟩
                case measure => simp [intOf]; omega
              · go_wp2
                go_roundw
                case rel => exact ⟨k + 1, rs', by omega, by go_num, OK.out.1, OK.out.2, s10, F10, B10⟩
                case measure => simp [intOf]; omega
          · go_wp2_with (go_at_call 16; refine (no8_is _ _).mono ?_; rintro e w10 ⟨rfl, rfl⟩)
            clear o0 o1 o2 o3 o4 o5 o6 o7 d0 d1 d2 d3 d4 d5 d6 hact
            go_loopw [13] (fun v13 wq => ∃ j : Nat, j ≤ 13 ∧ v13 = .int .i64 j ∧ Rul wq ∧ IsFile wq 63 fb rs' ∧ IsFile wq 37 wb rs' ∧ IsFile wq 37 nb rs' ∧ Blok wq ob 34 (#[.int .i64 o.kind, .int .i64 o.t.crn, .int .i64 o.t.op1, .int .i64 o.t.crm, .int .i64 o.t.op2, .bool o.priv, .int .u32 o.word, .int .i64 o.reg] : Array Value).toList ∧ Below w.heap.size w wq) (fun v13 _ => 13 - (intOf v13).toNat)
            case atStart => exact ⟨0, Nat.zero_le _, rfl, s9, F9, W9, N9, O9, B9⟩
            case round =>
              clear s9 F9 W9 N9 O9 A9 B9
              obtain ⟨j, hj, rfl, s10, F10, W10, N10, O10, B10⟩ := hrel
              by_cases hlj : j < 13
              · have cw := W10.cell j hlj
                have cn := N10.cell j hlj
                have j0 : (0 : Int) ≤ ↑j := by omega
                have j1 : (↑j : Int) < 13 := by omega
                have jn : ((↑j : Int) != -1) = true := by rw [bne_iff_ne]; omega
                go_wp2_with fail
                go_quiet (fail)
                go_wp2
                go_roundw
                case rel => exact ⟨j + 1, by omega, by go_num, s10.below (bdrewN (Below.refl _ _) _), F10.drewN _, W10.drewN _, N10.drewN _, O10.drewN _, bdrewN B10 _⟩
                case measure => simp [intOf]; omega
              · go_wp2
                go_roundw
                case rel => exact ⟨k + 1, rs', by omega, by go_num, OK.out.1, OK.out.2, s10, F10, B10⟩
                case measure => simp [intOf]; omega
    · have hke : k = os.length := by omega
      go_wp2
      go_ret
      exact ⟨rfl, B5⟩
end Go.Proofs.YtakihcdolpocjaaDoor
