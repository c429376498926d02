/- The walk of the law TlbPlays: for every number of places and every script it answers true. -/
import Derived.Test.YtngcpcgioophcaaDoorAsk
namespace Go.Proofs.YtngcpcgioophcaaDoor
open Go.RowKit

def asksRow (os : List Op10) (xs : List Slot) : List Slot := os.foldl (fun r o => askRow o r) xs
theorem asksRow_snoc (os : List Op10) (o : Op10) (xs : List Slot) : asksRow (os ++ [o]) xs = askRow o (asksRow os xs) := by simp [asksRow]
theorem asksRow_len (os : List Op10) : ∀ xs : List Slot, (asksRow os xs).length = xs.length := by
  induction os with
  | nil => intro xs; rfl
  | cons o os ih => intro xs; exact (ih (askRow o xs)).trans (askRow_len o xs)
theorem asksRow_ok (os : List Op10) (ho : ∀ o ∈ os, o.Ok) : ∀ xs : List Slot, RowOk xs → RowOk (asksRow os xs) := by
  induction os with
  | nil => intro xs h; exact h
  | cons o os ih => intro xs h; exact ih (fun x hx => ho x (List.mem_cons_of_mem _ hx)) _ (askRow_ok o (ho o List.mem_cons_self) xs h)
theorem Both.rc {w : World} {tb g rb rg : Nat} {xs : List Slot} (h : Both w tb g rb rg xs) : w.cell? ⟨rb, 0, none⟩ = some (.slice (some ⟨rg, 0, none⟩) xs.length xs.length) := h.r.hd.cell 0
set_option maxHeartbeats 1600000 in
theorem plays_no (pl : Int) (p : Option Addr) (len cap : Nat) (w : World) (hs : Shf w) (hn : pl < 1 ∨ 64 < pl) :
    Calls Tryd.prog 8 #[.int .i64 pl, .slice p len cap] w fun e w' => e = .returned (.bool true) ∧ Below w.heap.size w w' := by
  have NT := Lib.hid (tlb_New_no pl hn w)
  have NR := Lib.hid (ref_New_no pl hn w)
  clear hn
  go_enter Tryd.func8, Tryd.ntmps8
  go_wp2_with (first
    | (go_at_call 31; refine NT.out.mono ?_; rintro e w1 ⟨rfl, rfl⟩)
    | (go_at_call 32; refine NR.out.mono ?_; rintro e w2 ⟨rfl, rfl⟩)
    | (go_at_call 33; refine (no_is _ _).mono ?_; rintro e w3 ⟨rfl, rfl⟩)
    | (go_at_call 17; refine (live_is _ hs).mono ?_; rintro e w4 ⟨rfl, hb4⟩))
  go_ret
  exact ⟨rfl, hb4⟩
set_option maxHeartbeats 12800000 in
set_option maxRecDepth 100000 in
theorem plays_yes (n : Nat) (hn1 : 1 ≤ n) (hn64 : n ≤ 64) (p : Option Addr) (cap : Nat) (os : List Op10) (hos : ∀ o ∈ os, o.Ok) (hmax : os.length ≤ maxLen) (w : World) (hs : Shf w) (hO : OpsIn w.heap.size w p os) :
    Calls Tryd.prog 8 #[.int .i64 n, .slice p os.length cap] w fun e w' => e = .returned (.bool true) ∧ Below w.heap.size w w' := by
  have hml : os.length < 9223372036854775808 := Nat.lt_of_le_of_lt hmax (by decide)
  clear hmax
  have hg0 : w.heap.size ≠ 0 := by have := hs.pos; omega
  have NT := Lib.hid (tlb_New_yes n hn1 hn64 w)
  have NR := Lib.hid (fun W => ref_New_yes n hn1 hn64 W)
  go_enter Tryd.func8, Tryd.ntmps8
  go_wp2_with (first
    | (go_at_call 31; refine NT.out.mono ?_; rintro e w1 ⟨rfl, hT1, hb1⟩; have hs1 := hs.below hs.pos hb1)
    | (go_at_call 32; refine (NR.out _).mono ?_; rintro e w2 ⟨rfl, hR2, hb2⟩; have hs2 := hs1.below hs1.pos hb2)
    | (go_at_call 33; refine (no_is _ _).mono ?_; rintro e w3 ⟨rfl, rfl⟩)
    | (go_at_call 17; refine (live_is _ hs2).mono ?_; rintro e w4 ⟨rfl, hb4⟩))
  have hz1 := hT1.hd.lt
  have hs4 := hs2.below hs2.pos hb4
  have hB4 := bthen (bthen hb1 hb2) hb4
  have hBo : Both w4 (w.heap.size + 1) w.heap.size (w1.heap.size + 1) w1.heap.size (newRow n) := Both.below ⟨hT1.below hb2, hR2, by omega, by omega, by omega⟩ hb4
  obtain ⟨rg, hrg⟩ : ∃ rg, w1.heap.size = rg := ⟨_, rfl⟩
  rw [hrg] at hBo hz1 ⊢
  clear hT1 hR2 hb1 hb2 hb4 hs1 hs2 NT NR
  go_loopw [9] (fun v9 wr => ∃ k : Nat, k ≤ os.length ∧ v9 = .int .i64 k ∧ Both wr (w.heap.size + 1) w.heap.size (rg + 1) rg (asksRow (os.take k) (newRow n)) ∧ Shf wr ∧ Below w.heap.size w wr) (fun v9 _ => os.length - (intOf v9).toNat)
  case atStart => exact ⟨0, Nat.zero_le _, rfl, hBo, hs4, hB4⟩
  case round =>
    clear hBo hs4 hB4
    obtain ⟨k, hk, rfl, hT, hsr, hB⟩ := hrel
    by_cases hlt : k < os.length
    · obtain ⟨o, hok⟩ : ∃ o, os[k]? = some o := ⟨_, List.getElem?_eq_getElem hlt⟩
      obtain ⟨b, k0, hp, hb, hc⟩ := hO k o hok
      subst hp
      (have d0 : ∀ w', Below (w.heap.size) (w) w' → w'.cell? ⟨b, k0 + k * 15, none⟩ = some (.int .i64 o.kind) := fun w' h => (h.cell hb).trans (hc 0 _ rfl); have d1 : ∀ w', Below (w.heap.size) (w) w' → w'.cell? ⟨b, k0 + k * 15 + 1, none⟩ = some (.int .u32 o.va) := fun w' h => (h.cell hb).trans (hc 1 _ rfl); have d2 : ∀ w', Below (w.heap.size) (w) w' → w'.cell? ⟨b, k0 + k * 15 + 2, none⟩ = some (.int .i64 o.n) := fun w' h => (h.cell hb).trans (hc 2 _ rfl); have d3 : ∀ w', Below (w.heap.size) (w) w' → w'.cell? ⟨b, k0 + k * 15 + 3, none⟩ = some (.int .i64 o.blk.asid) := fun w' h => (h.cell hb).trans (hc 3 _ rfl); have d4 : ∀ w', Below (w.heap.size) (w) w' → w'.cell? ⟨b, k0 + k * 15 + 4, none⟩ = some (.int .i64 o.blk.size) := fun w' h => (h.cell hb).trans (hc 4 _ rfl); have d5 : ∀ w', Below (w.heap.size) (w) w' → w'.cell? ⟨b, k0 + k * 15 + 5, none⟩ = some (.int .u32 o.blk.va) := fun w' h => (h.cell hb).trans (hc 5 _ rfl); have d6 : ∀ w', Below (w.heap.size) (w) w' → w'.cell? ⟨b, k0 + k * 15 + 6, none⟩ = some (.int .u64 o.blk.pa) := fun w' h => (h.cell hb).trans (hc 6 _ rfl); have d7 : ∀ w', Below (w.heap.size) (w) w' → w'.cell? ⟨b, k0 + k * 15 + 7, none⟩ = some (.int .i64 o.blk.dom) := fun w' h => (h.cell hb).trans (hc 7 _ rfl); have d8 : ∀ w', Below (w.heap.size) (w) w' → w'.cell? ⟨b, k0 + k * 15 + 8, none⟩ = some (.int .i64 o.blk.ap) := fun w' h => (h.cell hb).trans (hc 8 _ rfl); have d9 : ∀ w', Below (w.heap.size) (w) w' → w'.cell? ⟨b, k0 + k * 15 + 9, none⟩ = some (.int .u32 o.blk.bits) := fun w' h => (h.cell hb).trans (hc 9 _ rfl); have d10 : ∀ w', Below (w.heap.size) (w) w' → w'.cell? ⟨b, k0 + k * 15 + 10, none⟩ = some (.bool o.blk.ng) := fun w' h => (h.cell hb).trans (hc 10 _ rfl); have d11 : ∀ w', Below (w.heap.size) (w) w' → w'.cell? ⟨b, k0 + k * 15 + 11, none⟩ = some (.bool o.blk.xn) := fun w' h => (h.cell hb).trans (hc 11 _ rfl); have d12 : ∀ w', Below (w.heap.size) (w) w' → w'.cell? ⟨b, k0 + k * 15 + 12, none⟩ = some (.int .i64 o.drop.kind) := fun w' h => (h.cell hb).trans (hc 12 _ rfl); have d13 : ∀ w', Below (w.heap.size) (w) w' → w'.cell? ⟨b, k0 + k * 15 + 13, none⟩ = some (.int .u32 o.drop.va) := fun w' h => (h.cell hb).trans (hc 13 _ rfl); have d14 : ∀ w', Below (w.heap.size) (w) w' → w'.cell? ⟨b, k0 + k * 15 + 14, none⟩ = some (.int .i64 o.drop.asid) := fun w' h => (h.cell hb).trans (hc 14 _ rfl))
      have hoo := hos o (List.mem_of_getElem? hok)
      have hrow := asksRow_ok (os.take k) (fun o ho => hos o (List.mem_of_mem_take ho)) _ (newRow_ok n)
      have hBd : Below w.heap.size w wr.drew := bdrew hB
      have hsd : Shf wr.drew := hsr.drewN 1
      have hTd : Both wr.drew (w.heap.size + 1) w.heap.size (rg + 1) rg (asksRow (os.take k) (newRow n)) := hT.below (bdrew (Below.refl _ _))
      have hrk := take_snocO os k o hok
      have hst : asksRow (os.take (k + 1)) (newRow n) = askRow o (asksRow (os.take k) (newRow n)) := by rw [hrk, asksRow_snoc]
      have hz3 := hB.size
      obtain ⟨ys, hys⟩ : ∃ ys, askRow o (asksRow (os.take k) (newRow n)) = ys := ⟨_, rfl⟩
      have hcd : wr.drew.cell? ⟨rg + 1, 0, none⟩ = some (.slice (some ⟨rg, 0, none⟩) ys.length ys.length) := by rw [← hys, askRow_len]; exact hTd.rc
      have hyl : ys.length ≤ 64 := by rw [← hys, askRow_len, asksRow_len]; simpa [newRow] using hn64
      have AK := Lib.hid (asked_is o hoo (w.heap.size + 1) w.heap.size (rg + 1) rg _ hrow hg0 wr.drew hsd hTd)
      rw [hys] at AK hst
      have HST := Lib.hid hst
      clear hc hok hrow hrk hys hst hTd hoo
      go_wp2_with fail
      go_region_held3 (fun w' => Below w.heap.size w w' ∧ w'.cell? ⟨rg + 1, 0, none⟩ = some (.slice (some ⟨rg, 0, none⟩) ys.length ys.length))
        (first | assumption | exact ⟨by assumption, by assumption⟩)
        (first | (go_at_call 34; refine AK.out.mono ?_; rintro e wa ⟨rfl, hTa, hga⟩; have hBa := hBd.trans (hga.bel hz3 (Nat.le_refl _) (by omega)); have hca := hTa.rc)
               | (go_at_call 25; refine (tlb_Places_is _ _ _ _ hTa.t).mono ?_; rintro e wb ⟨rfl, hLb, hzb, hbb⟩; have hTb := hTa.below hbb; have hBb := hBa.trans (hbb.mono hBa.size); have hcb := hTb.rc)
               | (go_at_call 29; refine (sameSlots_is _ _ _ _ ys hyl _ hLb hTb.r.sl).mono ?_; rintro e wc ⟨rfl, hbc⟩; have hTc := hTb.below hbc; have hcc := hTc.rc; have hBc := bthen hBb hbc)
               | (go_at_call 35; refine (tlb_Len_is _ _ _ _ hTc.t).mono ?_; rintro e wd ⟨rfl, hbd⟩; have hTd := hTc.below hbd; have hce := hTd.rc; have hBe := bthen hBc hbd)
               | (go_at_call 36; refine (ref_Len_is _ _ _ _ hTd.r).mono ?_; rintro e we ⟨rfl, rfl⟩))
      all_goals
        have hsz : Shf wd := hs.below hs.pos hBe
        go_wp2
        go_roundw
        case rel => exact ⟨k + 1, by omega, by go_num, by rw [HST.out]; exact hTd, hsz, hBe⟩
        case measure => simp [intOf]; omega
    · have hke : k = os.length := by omega
      have htk : os.take k = os := by rw [hke]; exact List.take_length
      rw [htk] at hT
      have hxl := asksRow_len os (newRow n)
      have hnl : (newRow n).length = n := by simp [newRow]
      obtain ⟨xs, hxs⟩ : ∃ xs, asksRow os (newRow n) = xs := ⟨_, rfl⟩
      rw [hxs] at hT hxl
      rw [hnl] at hxl
      clear hxs htk hke hnl
      subst hxl
      have hBd : Below w.heap.size w wr.drew := bdrew hB
      have hTd : Both wr.drew (w.heap.size + 1) w.heap.size (rg + 1) rg xs := hT.below (bdrew (Below.refl _ _))
      have hcd : wr.drew.cell? ⟨rg + 1, 0, none⟩ = some (.slice (some ⟨rg, 0, none⟩) xs.length xs.length) := hTd.rc
      go_wp2_with fail
      go_region_held3 (fun w' => Below w.heap.size w w' ∧ w'.cell? ⟨rg + 1, 0, none⟩ = some (.slice (some ⟨rg, 0, none⟩) xs.length xs.length))
        (first | assumption | exact ⟨by assumption, by assumption⟩)
        (first | (go_at_call 37; refine (tlb_Cap_is _ _ _ _ hTd.t).mono ?_; rintro e wa ⟨rfl, rfl⟩)
               | (go_at_call 25; refine (tlb_Places_is _ _ _ _ hTd.t).mono ?_; rintro e wb ⟨rfl, hLb, hzb, hbb⟩; have hTb := hTd.below hbb; have hBb := hBd.trans (hbb.mono hBd.size); have hcb := hTb.rc)
               | (go_at_call 29; refine (sameSlots_is _ _ _ _ xs hn64 _ hLb hTb.r.sl).mono ?_; rintro e wc ⟨rfl, hbc⟩; have hTc := hTb.below hbc; have hcc := hTc.rc; have hBc := bthen hBb hbc))
      all_goals
        go_wp2
        go_ret
        exact ⟨rfl, hBc⟩
theorem plays_walk (pl : Int) (p : Option Addr) (cap : Nat) (os : List Op10) (hos : ∀ o ∈ os, o.Ok) (hmax : os.length ≤ maxLen) (w : World) (hs : Shf w) (hO : OpsIn w.heap.size w p os) :
    Calls Tryd.prog 8 #[.int .i64 pl, .slice p os.length cap] w fun e w' => e = .returned (.bool true) ∧ Below w.heap.size w w' := by
  by_cases h : 1 ≤ pl ∧ pl ≤ 64
  · obtain ⟨n, rfl⟩ := Int.eq_ofNat_of_zero_le (show 0 ≤ pl by omega)
    exact plays_yes n (by omega) (by omega) p cap os hos hmax w hs hO
  · exact plays_no pl p os.length cap w hs (by omega)
end Go.Proofs.YtngcpcgioophcaaDoor
