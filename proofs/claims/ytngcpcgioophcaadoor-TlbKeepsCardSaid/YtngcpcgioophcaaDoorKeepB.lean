/- The inner switch of TlbKeeps behind a Put that took. -/
import Derived.Test.YtngcpcgioophcaaDoorKeepU
namespace Go.Proofs.YtngcpcgioophcaaDoor
open Go.RowKit

set_option maxHeartbeats 12800000 in
set_option maxRecDepth 100000 in
theorem keep_took (w : World) (g tb wb nb ob n j : Nat) (o : Op10) (xs ys : List Slot) (s t : Slot) (KP : Hid (KAt o xs ys n j s t)) (wr : World) (I : KInv w g tb wb nb ob o xs ys wr) (q : Bool) (hq0 : sameS s t = q) (ht : opTook o = true)
    {u0 u1 u2 u3 u4 u5 u7 u13 u16 u17 u18 u19 u20 u21 u22 u23 u24 u25 u26 u27 u28 u29 u30 u31 u32 u33 u34 u35 u36 u37 u38 u39 u40 u41 u42 u43 u44 u45 u46 u47 u48 u49 u50 u51 u52 u53 u54 u55 u56 u57 u58 u59 u60 u61 u62 u63 u64 u65 u66 u67 u68 u69 u70 u71 u72 u73 u74 u75 u76 u77 u78 u79 u80 u81 u82 u83 u84 u85 u86 u87 u88 u89 u90 u91 u92 u93 u94 u95 u96 u97 u98 u99 u100 u101 u102 u103 u104 u105 u106 u107 u108 u109 u110 u111 u112 u113 u114 u115 u116 u117 u118 u119 u120 u121 u122 u123 u124 u125 u126 u127 u128 u129 u130 u131 u132 u133 u134 u135 u136 u137 u138 u139 u140 u141 u142 u143 u144 u145 u146 u147 u148 u149 u150 u151 u152 u153 u154 u155 u156 u157 u158 u159 u160 u161 u162 u163 u164 u165 u166 u167 u168 u169 u170 u171 u172 u173 u174 u175 u176 u177 u178 u179 u180 u181 u182 u183 u184 u185 u186 u187 u188 u189 u190 u191 u192 u193 u194 u195 u196 u197 u198 u199 u200 u201 u202 u203 u204 u205 u206 u207 u208 u209 u210 u211 u212 u213 u214 u215 u216 u217 u218 u219 u220 u221 u222 u223 u224 u225 u226 u227 u228 u229 u230 u231 u232 u233 u234 u235 u236 u237 u238 u239 u240 u241 u242 u243 u244 u245 u246 u247 u248 u249 u250 u251 : Value} {Q : Exit → Act → World → Prop}
    (hex : ∀ (u122 u123 u124 u125 u126 u127 u128 u129 u130 u131 u132 u133 u134 u135 u136 u137 u138 u139 u140 u141 u142 u143 u144 u145 u146 u147 u148 u149 u150 u151 u152 u153 u154 u155 u156 u157 u158 u159 u160 u161 u162 u163 u164 u165 u166 u167 u168 u169 u170 u171 u172 u173 u174 u175 u176 u177 u178 u179 u180 u181 u182 u183 u184 u185 u186 u187 u188 u189 u190 u191 u192 u193 u194 u195 u196 u197 u198 u199 u200 u201 u202 u203 u204 u205 u206 u207 u208 u209 u210 u211 u212 u213 u214 u215 u216 u217 u218 u219 u220 u221 u222 u223 u224 : Value) (w' : World), KInv w g tb wb nb ob o xs ys w' → Q .normal ⟨#[u0, u1, u2, u3, u4, u5, .int .i64 n, u7, .pointer (some ⟨ob, 0, none⟩), .slice (some ⟨wb, 0, none⟩) n n, .int .i64 (opAt o xs), .bool (opTook o), .slice (some ⟨nb, 0, none⟩) n n, u13, .int .i64 j, .bool q, u16, u17, u18, u19, u20, u21, u22, u23, u24, u25, u26, u27, u28, u29, u30, u31, u32, u33, u34, u35, u36, u37, u38, u39, u40, u41, u42, u43, u44, u45, u46, u47, u48, u49, u50, u51, u52, u53, u54, u55, u56, u57, u58, u59, u60, u61, u62, u63, u64, u65, u66, u67, u68, u69, u70, u71, u72, u73, u74, u75, u76, u77, u78, u79, u80, u81, u82, u83, u84, u85, u86, u87, u88, u89, u90, u91, u92, u93, u94, u95, u96, u97, u98, u99, u100, u101, u102, u103, u104, u105, u106, u107, u108, u109, u110, u111, u112, u113, u114, u115, u116, u117, u118, u119, u120, u121, u122, u123, u124, u125, u126, u127, u128, u129, u130, u131, u132, u133, u134, u135, u136, u137, u138, u139, u140, u141, u142, u143, u144, u145, u146, u147, u148, u149, u150, u151, u152, u153, u154, u155, u156, u157, u158, u159, u160, u161, u162, u163, u164, u165, u166, u167, u168, u169, u170, u171, u172, u173, u174, u175, u176, u177, u178, u179, u180, u181, u182, u183, u184, u185, u186, u187, u188, u189, u190, u191, u192, u193, u194, u195, u196, u197, u198, u199, u200, u201, u202, u203, u204, u205, u206, u207, u208, u209, u210, u211, u212, u213, u214, u215, u216, u217, u218, u219, u220, u221, u222, u223, u224, u225, u226, u227, u228, u229, u230, u231, u232, u233, u234, u235, u236, u237, u238, u239, u240, u241, u242, u243, u244, u245, u246, u247, u248, u249, u250, u251], []⟩ w') :
    Code.wp Tryd.prog keepB4 Q ⟨#[u0, u1, u2, u3, u4, u5, .int .i64 n, u7, .pointer (some ⟨ob, 0, none⟩), .slice (some ⟨wb, 0, none⟩) n n, .int .i64 (opAt o xs), .bool (opTook o), .slice (some ⟨nb, 0, none⟩) n n, u13, .int .i64 j, .bool q, u16, u17, u18, u19, u20, u21, u22, u23, u24, u25, u26, u27, u28, u29, u30, u31, u32, u33, u34, u35, u36, u37, u38, u39, u40, u41, u42, u43, u44, u45, u46, u47, u48, u49, u50, u51, u52, u53, u54, u55, u56, u57, u58, u59, u60, u61, u62, u63, u64, u65, u66, u67, u68, u69, u70, u71, u72, u73, u74, u75, u76, u77, u78, u79, u80, u81, u82, u83, u84, u85, u86, u87, u88, u89, u90, u91, u92, u93, u94, u95, u96, u97, u98, u99, u100, u101, u102, u103, u104, u105, u106, u107, u108, u109, u110, u111, u112, u113, u114, u115, u116, u117, u118, u119, u120, u121, u122, u123, u124, u125, u126, u127, u128, u129, u130, u131, u132, u133, u134, u135, u136, u137, u138, u139, u140, u141, u142, u143, u144, u145, u146, u147, u148, u149, u150, u151, u152, u153, u154, u155, u156, u157, u158, u159, u160, u161, u162, u163, u164, u165, u166, u167, u168, u169, u170, u171, u172, u173, u174, u175, u176, u177, u178, u179, u180, u181, u182, u183, u184, u185, u186, u187, u188, u189, u190, u191, u192, u193, u194, u195, u196, u197, u198, u199, u200, u201, u202, u203, u204, u205, u206, u207, u208, u209, u210, u211, u212, u213, u214, u215, u216, u217, u218, u219, u220, u221, u222, u223, u224, u225, u226, u227, u228, u229, u230, u231, u232, u233, u234, u235, u236, u237, u238, u239, u240, u241, u242, u243, u244, u245, u246, u247, u248, u249, u250, u251], []⟩ wr := by
  dsimp only at hex ⊢
  conv => arg 2; whnf
  have i0 : (0 : Int) ≤ ↑j := by omega
  have i1 : (↑j : Int) < ↑n := by have := KP.out.lt; omega
  subst hq0
  obtain ⟨sf, sb⟩ := s
  obtain ⟨tf, tk⟩ := t
  have HCN := Lib.hid (fun wq (h : Blok wq nb 50 (rowCells ys)) q (hq : q < 10) => show wq.cell? ⟨nb, j * 10 + q, none⟩ = (slotCells ⟨tf, tk⟩)[q]? by rw [h.cell, rowCells_at ys j q _ KP.out.t hq])
  have HCW := Lib.hid (fun wq (h : Blok wq wb 50 (rowCells xs)) q (hq : q < 10) => show wq.cell? ⟨wb, j * 10 + q, none⟩ = (slotCells ⟨sf, sb⟩)[q]? by rw [h.cell, rowCells_at xs j q _ KP.out.s hq])
  have hk : o.kind = 2 := by unfold opTook at ht; rw [Bool.and_eq_true, decide_eq_true_eq] at ht; exact ht.1
  have t2 : (o.kind == 2) = true := by simp [hk]
  have PU := KP.out.put ht
  rw [ht] at hex ⊢
  clear hk ht
  (have c0 : (wr).cell? ⟨ob, 0, none⟩ = some (.int .i64 o.kind) := (I.op).cell 0; have c1 : (wr).cell? ⟨ob, 1, none⟩ = some (.int .u32 o.va) := (I.op).cell 1; have c2 : (wr).cell? ⟨ob, 2, none⟩ = some (.int .i64 o.n) := (I.op).cell 2; have c3 : (wr).cell? ⟨ob, 3, none⟩ = some (.int .i64 o.blk.asid) := (I.op).cell 3; have c4 : (wr).cell? ⟨ob, 4, none⟩ = some (.int .i64 o.blk.size) := (I.op).cell 4; have c5 : (wr).cell? ⟨ob, 5, none⟩ = some (.int .u32 o.blk.va) := (I.op).cell 5; have c6 : (wr).cell? ⟨ob, 6, none⟩ = some (.int .u64 o.blk.pa) := (I.op).cell 6; have c7 : (wr).cell? ⟨ob, 7, none⟩ = some (.int .i64 o.blk.dom) := (I.op).cell 7; have c8 : (wr).cell? ⟨ob, 8, none⟩ = some (.int .i64 o.blk.ap) := (I.op).cell 8; have c9 : (wr).cell? ⟨ob, 9, none⟩ = some (.int .u32 o.blk.bits) := (I.op).cell 9; have c10 : (wr).cell? ⟨ob, 10, none⟩ = some (.bool o.blk.ng) := (I.op).cell 10; have c11 : (wr).cell? ⟨ob, 11, none⟩ = some (.bool o.blk.xn) := (I.op).cell 11; have c12 : (wr).cell? ⟨ob, 12, none⟩ = some (.int .i64 o.drop.kind) := (I.op).cell 12; have c13 : (wr).cell? ⟨ob, 13, none⟩ = some (.int .u32 o.drop.va) := (I.op).cell 13; have c14 : (wr).cell? ⟨ob, 14, none⟩ = some (.int .i64 o.drop.asid) := (I.op).cell 14)
  cases hq : sameS ⟨sf, sb⟩ ⟨tf, tk⟩
  · obtain ⟨p1, p2, p3⟩ := PU hq
    obtain ⟨rfl, rfl⟩ := Slot.mk.inj p2
    rw [← p1] at hex ⊢
    rw [hq] at hex
    have WW := within_is wb n xs KP.out.law.lx KP.out.n64 o.blk n wr.drew (I.drew 1).was
    rw [p3] at WW
    have WW := Lib.hid WW
    have hne := neq_self' o.blk
    clear p1 p2 p3 PU hq
    (have d0 : (wr).cell? ⟨nb, j * 10, none⟩ = some (.bool true) := (HCN.out wr I.now) 0 (by omega); have d1 : (wr).cell? ⟨nb, j * 10 + 1, none⟩ = some (.int .i64 o.blk.asid) := (HCN.out wr I.now) 1 (by omega); have d2 : (wr).cell? ⟨nb, j * 10 + 2, none⟩ = some (.int .i64 o.blk.size) := (HCN.out wr I.now) 2 (by omega); have d3 : (wr).cell? ⟨nb, j * 10 + 3, none⟩ = some (.int .u32 o.blk.va) := (HCN.out wr I.now) 3 (by omega); have d4 : (wr).cell? ⟨nb, j * 10 + 4, none⟩ = some (.int .u64 o.blk.pa) := (HCN.out wr I.now) 4 (by omega); have d5 : (wr).cell? ⟨nb, j * 10 + 5, none⟩ = some (.int .i64 o.blk.dom) := (HCN.out wr I.now) 5 (by omega); have d6 : (wr).cell? ⟨nb, j * 10 + 6, none⟩ = some (.int .i64 o.blk.ap) := (HCN.out wr I.now) 6 (by omega); have d7 : (wr).cell? ⟨nb, j * 10 + 7, none⟩ = some (.int .u32 o.blk.bits) := (HCN.out wr I.now) 7 (by omega); have d8 : (wr).cell? ⟨nb, j * 10 + 8, none⟩ = some (.bool o.blk.ng) := (HCN.out wr I.now) 8 (by omega); have d9 : (wr).cell? ⟨nb, j * 10 + 9, none⟩ = some (.bool o.blk.xn) := (HCN.out wr I.now) 9 (by omega))
    go_wp2_with fail
    (refine wp_region_tail 20 (by kernel_rfl) (by kernel_rfl) ?_; simp only [List.take_succ_cons, List.take_zero, List.drop_succ_cons, List.drop_zero]; (repeat still_step); (try refine wpStill_nil ?_))
    go_wp2_with (go_at_call 27; refine WW.out.mono ?_; rintro e w8 ⟨rfl, b8⟩)
    exact (I.drew 1).below b8
  · rw [hq] at hex
    clear PU hq
    go_wp2_with fail
    go_quiet (fail)
    go_wp2_with fail
    exact I.drew _
end Go.Proofs.YtngcpcgioophcaaDoor
