/- The law Cp15Plays of layer 8, walked. -/
import Derived.Test.YtakihcdolpocjaaDoorCTuples
import Derived.Test.YtakihcdolpocjaaDoorCScript
namespace Go.Proofs.YtakihcdolpocjaaDoor
open Go.RowKit

/-- the registers behind a call -/
def stepR8 (o : Op8) (rs : List Int) : List Int :=
  if o.kind = 2 then (writeR o.t o.priv o.word rs).2.2 else if o.kind = 4 then (if 0 ≤ o.reg ∧ o.reg < 13 then rs.set o.reg.toNat (keep o.reg.toNat o.word) else rs) else rs
theorem stepR8_ok (o : Op8) {rs : List Int} (h : RegsOk rs) : RegsOk (stepR8 o rs) := by
  unfold stepR8
  split
  · exact writeR_ok h _ _ _
  · split
    · split
      · exact h.set_ _ (by omega) _
      · exact h
    · exact h
theorem asked_is (o : Op8) (ho : o.Ok) (fb rb : Nat) (hne : fb ≠ rb) (rs : List Int) (hok : RegsOk rs) (w : World) (hs : Rul w) (hF : IsFile w 63 fb rs) (hR : IsFile w 68 rb rs) :
    Calls Tryd.prog 12 #[.pointer (some ⟨fb, 0, none⟩), .pointer (some ⟨rb, 0, none⟩), .agg #[.int .i64 o.kind, .int .i64 o.t.crn, .int .i64 o.t.op1, .int .i64 o.t.crm, .int .i64 o.t.op2, .bool o.priv, .int .u32 o.word, .int .i64 o.reg]] w (AskPost fb rb (stepR8 o rs) w) := by
  obtain ⟨kind, t, priv, word, reg⟩ := o
  dsimp only
  unfold stepR8
  dsimp only
  by_cases k1 : kind = 1
  · subst k1; exact asked_1 fb rb rs t priv word reg w hs hF hR
  by_cases k2 : kind = 2
  · subst k2; exact asked_2 fb rb hne rs t priv word reg ho.w0 ho.w1 w hs hF hR
  rw [if_neg k2]
  by_cases k4 : kind = 4
  · subst k4
    rw [if_pos rfl]
    by_cases hr : 0 ≤ reg ∧ reg < 13
    · rw [if_pos hr]
      obtain ⟨n, rfl⟩ := Int.eq_ofNat_of_zero_le hr.1
      exact asked_4_yes fb rb hne rs t priv word n (by omega) w hs hF hR
    · rw [if_neg hr]
      exact asked_4_no fb rb rs t priv word reg (by omega) w hs hF hR
  rw [if_neg k4]
  by_cases k3 : kind = 3
  · subst k3
    by_cases hr : 0 ≤ reg ∧ reg < 13
    · obtain ⟨n, rfl⟩ := Int.eq_ofNat_of_zero_le hr.1
      exact asked_3_yes fb rb rs t priv word _ n (by omega) rfl w hs hF hR
    · exact asked_3_no fb rb rs t priv word reg (by omega) w hs hF hR
  by_cases k6 : kind = 6
  · subst k6; exact asked_6 fb rb rs t priv word reg w hs hF hR
  exact asked_5 fb rb rs t priv word reg kind k1 k2 k3 k4 k6 hok w hs hF hR
set_option maxHeartbeats 6400000 in
set_option maxRecDepth 100000 in
theorem plays_walk (p : Option Addr) (cap : Nat) (os : List Op8) (hos : ∀ o ∈ os, o.Ok) (hmax : os.length ≤ maxLen) (w : World) (hs : Rul w) (hO : OpsIn8 w.heap.size w p os) :
    Calls Tryd.prog 3 #[.slice p os.length cap] w fun e w' => e = .returned (.bool true) ∧ Below w.heap.size w w' := by
  have hml : os.length < 9223372036854775808 := Nat.lt_of_le_of_lt hmax (by decide)
  clear hmax
  have hgp := hs.pos
  have NW : Calls Tryd.prog 8 #[] w fun e w' => ∃ fb, w.heap.size ≤ fb ∧ e = .returned (.pointer (some ⟨fb, 0, none⟩)) ∧ IsFile w' 63 fb startL ∧ Below w.heap.size w w' :=
    (New_is _ hs).mono fun e w' h => ⟨_, Nat.le_refl _, h⟩
  have NW := Lib.hid NW
  have NR : ∀ W, Calls Tryd.prog 9 #[] W fun e w' => ∃ rb, W.heap.size ≤ rb ∧ e = .returned (.pointer (some ⟨rb, 0, none⟩)) ∧ IsFile w' 68 rb startL ∧ Below W.heap.size W w' :=
    fun W => (refNew_is W).mono fun e w' h => ⟨_, Nat.le_refl _, h⟩
  have NR := Lib.hid NR
  go_enter Tryd.func3, Tryd.ntmps3
  go_wp2_with fail
  refine NW.out.mono ?_
  rintro e w1 ⟨fb, hfb, rfl, F1, b1⟩
  have s1 := hs.below b1
  have l1 := F1.b.lt
  go_wp2_with fail
  refine (NR.out _).mono ?_
  rintro e w2 ⟨rb, hrb, rfl, R2, b2⟩
  have s2 := s1.below b2
  have F2 := F1.below b2
  have l2 := R2.b.lt
  go_wp2_with fail
  refine (live_is w2 s2).mono ?_
  rintro e w3 ⟨rfl, b3⟩
  have s3 := s2.below b3
  have F3 := F2.below b3
  have R3 := R2.below b3
  go_wp2_with fail
  refine (alike_is fb rb _ startOk _ F3 R3).mono ?_
  rintro e w4 ⟨rfl, b4⟩
  have s4 := s3.below b4
  have F4 := F3.below b4
  have R4 := R3.below b4
  have B4 : Below w.heap.size w w4 := bthen (bthen (bthen b1 b2) b3) b4
  have hne : fb ≠ rb := by omega
  have hsr : ¬ (fun b => b = fb ∨ b = rb) 0 := by intro h; have h : 0 = fb ∨ 0 = rb := h; omega
  have hS : ∀ i, (fun b => b = fb ∨ b = rb) i → w.heap.size ≤ i := by intro i h; have h : i = fb ∨ i = rb := h; omega
  clear hfb hrb l1 l2 hgp s1 s2 s3 F1 F2 F3 R2 R3 b1 b2 b3 b4
  go_wp2_with fail
  go_loopw [5] (fun v5 wr => ∃ (k : Nat) (rs : List Int), k ≤ os.length ∧ v5 = .int .i64 k ∧ RegsOk rs ∧ Rul wr ∧ IsFile wr 63 fb rs ∧ IsFile wr 68 rb rs ∧ Below w.heap.size w wr) (fun v5 _ => os.length - (intOf v5).toNat)
  case atStart => exact ⟨0, startL, Nat.zero_le _, rfl, startOk, s4, F4, R4, B4⟩
  case round =>
    obtain ⟨k, rs, hk, rfl, hok, s5, F5, R5, B5⟩ := hrel
    clear s4 F4 R4 B4
    by_cases hlt : k < os.length
    · obtain ⟨o, hok'⟩ : ∃ o, os[k]? = some o := ⟨_, List.getElem?_eq_getElem hlt⟩
      have hoo := hos o (List.mem_of_getElem? hok')
      obtain ⟨b, k0, hp, hb, hc⟩ := (hO.below B5) k o hok'
      subst hp
      have AK := Lib.hid (asked_is o hoo fb rb hne rs hok wr s5 F5 R5)
      have OK := Lib.hid (stepR8_ok o hok)
      have c0 : wr.cell? ⟨b, k0 + k * 8, none⟩ = some (.int .i64 o.kind) := hc 0 _ rfl
      have c1 := hc 1 _ rfl
      have c2 := hc 2 _ rfl
      have c3 := hc 3 _ rfl
      have c4 := hc 4 _ rfl
      have c5 := hc 5 _ rfl
      have c6 := hc 6 _ rfl
      have c7 := hc 7 _ rfl
      have i0 : (0 : Int) ≤ ↑k := by omega
      have i1 : (↑k : Int) < ↑os.length := by omega
      clear hoo hok' hc hok
      go_wp2_with fail
      refine AK.out.mono ?_
      rintro e w6 ⟨rfl, F6, R6, g6⟩
      have s6 := s5.gs g6 hsr
      have B6 : Below w.heap.size w w6 := B5.trans (g6.bel B5.size hS)
      go_wp2_with fail
      refine (alike_is fb rb _ OK.out _ F6 R6).mono ?_
      rintro e w7 ⟨rfl, b7⟩
      have s7 := s6.below b7
      have F7 := F6.below b7
      have R7 := R6.below b7
      have B7 := bthen B6 b7
      go_wp2
      go_roundw
      case rel => exact ⟨k + 1, _, by omega, by go_num, OK.out, s7, F7, R7, B7⟩
      case measure => simp [intOf]; omega
    · have hke : k = os.length := by omega
      go_wp2
      go_ret
      exact ⟨rfl, B5⟩
end Go.Proofs.YtakihcdolpocjaaDoor
