/- The inner loop of TlbKeeps. -/
import Derived.Deep.DeepCutAuto
import Derived.Deep.CutBlock
import Derived.Test.YtngcpcgioophcaaDoorKeepA
import Derived.Test.YtngcpcgioophcaaDoorKeepB
import Derived.Test.YtngcpcgioophcaaDoorKeepC
import Derived.Test.YtngcpcgioophcaaDoorKeepD
namespace Go.Proofs.YtngcpcgioophcaaDoor
open Go.RowKit

set_option maxHeartbeats 12800000 in
set_option maxRecDepth 100000 in
theorem keep_loop (w : World) (g tb wb nb ob n : Nat) (o : Op10) (xs ys : List Slot) (KL : Hid (KLaw o xs ys n)) (hn : n ≤ 64) (wr0 : World) (I : KInv w g tb wb nb ob o xs ys wr0)
    {u0 u1 u2 u3 u4 u5 u7 u15 u16 u17 u18 u19 u20 u21 u22 u23 u24 u25 u26 u27 u28 u29 u30 u31 u32 u33 u34 u35 u36 u37 u38 u39 u40 u41 u42 u43 u44 u45 u46 u47 u48 u49 u50 u51 u52 u53 u54 u55 u56 u57 u58 u59 u60 u61 u62 u63 u64 u65 u66 u67 u68 u69 u70 u71 u72 u73 u74 u75 u76 u77 u78 u79 u80 u81 u82 u83 u84 u85 u86 u87 u88 u89 u90 u91 u92 u93 u94 u95 u96 u97 u98 u99 u100 u101 u102 u103 u104 u105 u106 u107 u108 u109 u110 u111 u112 u113 u114 u115 u116 u117 u118 u119 u120 u121 u122 u123 u124 u125 u126 u127 u128 u129 u130 u131 u132 u133 u134 u135 u136 u137 u138 u139 u140 u141 u142 u143 u144 u145 u146 u147 u148 u149 u150 u151 u152 u153 u154 u155 u156 u157 u158 u159 u160 u161 u162 u163 u164 u165 u166 u167 u168 u169 u170 u171 u172 u173 u174 u175 u176 u177 u178 u179 u180 u181 u182 u183 u184 u185 u186 u187 u188 u189 u190 u191 u192 u193 u194 u195 u196 u197 u198 u199 u200 u201 u202 u203 u204 u205 u206 u207 u208 u209 u210 u211 u212 u213 u214 u215 u216 u217 u218 u219 u220 u221 u222 u223 u224 u225 u226 u227 u228 u229 u230 u231 u232 u233 u234 u235 u236 u237 u238 u239 u240 u241 u242 u243 u244 u245 u246 u247 u248 u249 u250 u251 : Value} {Q : Exit → Act → World → Prop}
    (hex : ∀ (u4 u14 u15 u57 u58 u59 u60 u61 u62 u63 u64 u65 u66 u67 u68 u69 u70 u71 u72 u73 u74 u75 u76 u77 u78 u79 u80 u81 u82 u83 u84 u85 u86 u87 u88 u89 u90 u91 u92 u93 u94 u95 u96 u97 u98 u99 u100 u101 u102 u103 u104 u105 u106 u107 u108 u109 u110 u111 u112 u113 u114 u115 u116 u117 u118 u119 u120 u121 u122 u123 u124 u125 u126 u127 u128 u129 u130 u131 u132 u133 u134 u135 u136 u137 u138 u139 u140 u141 u142 u143 u144 u145 u146 u147 u148 u149 u150 u151 u152 u153 u154 u155 u156 u157 u158 u159 u160 u161 u162 u163 u164 u165 u166 u167 u168 u169 u170 u171 u172 u173 u174 u175 u176 u177 u178 u179 u180 u181 u182 u183 u184 u185 u186 u187 u188 u189 u190 u191 u192 u193 u194 u195 u196 u197 u198 u199 u200 u201 u202 u203 u204 u205 u206 u207 u208 u209 u210 u211 u212 u213 u214 u215 u216 u217 u218 u219 u220 u221 u222 u223 u224 : Value) (w' : World), KInv w g tb wb nb ob o xs ys w' → Q (.exit 2) ⟨#[u0, u1, u2, u3, u4, u5, .int .i64 n, u7, .pointer (some ⟨ob, 0, none⟩), .slice (some ⟨wb, 0, none⟩) n n, .int .i64 (opAt o xs), .bool (opTook o), .slice (some ⟨nb, 0, none⟩) n n, .int .i64 (turnN xs ys n), u14, u15, u16, u17, u18, u19, u20, u21, u22, u23, u24, u25, u26, u27, u28, u29, u30, u31, u32, u33, u34, u35, u36, u37, u38, u39, u40, u41, u42, u43, u44, u45, u46, u47, u48, u49, u50, u51, u52, u53, u54, u55, u56, u57, u58, u59, u60, u61, u62, u63, u64, u65, u66, u67, u68, u69, u70, u71, u72, u73, u74, u75, u76, u77, u78, u79, u80, u81, u82, u83, u84, u85, u86, u87, u88, u89, u90, u91, u92, u93, u94, u95, u96, u97, u98, u99, u100, u101, u102, u103, u104, u105, u106, u107, u108, u109, u110, u111, u112, u113, u114, u115, u116, u117, u118, u119, u120, u121, u122, u123, u124, u125, u126, u127, u128, u129, u130, u131, u132, u133, u134, u135, u136, u137, u138, u139, u140, u141, u142, u143, u144, u145, u146, u147, u148, u149, u150, u151, u152, u153, u154, u155, u156, u157, u158, u159, u160, u161, u162, u163, u164, u165, u166, u167, u168, u169, u170, u171, u172, u173, u174, u175, u176, u177, u178, u179, u180, u181, u182, u183, u184, u185, u186, u187, u188, u189, u190, u191, u192, u193, u194, u195, u196, u197, u198, u199, u200, u201, u202, u203, u204, u205, u206, u207, u208, u209, u210, u211, u212, u213, u214, u215, u216, u217, u218, u219, u220, u221, u222, u223, u224, u225, u226, u227, u228, u229, u230, u231, u232, u233, u234, u235, u236, u237, u238, u239, u240, u241, u242, u243, u244, u245, u246, u247, u248, u249, u250, u251], []⟩ w') :
    Code.wp Tryd.prog keepB2 Q ⟨#[u0, u1, u2, u3, u4, u5, .int .i64 n, u7, .pointer (some ⟨ob, 0, none⟩), .slice (some ⟨wb, 0, none⟩) n n, .int .i64 (opAt o xs), .bool (opTook o), .slice (some ⟨nb, 0, none⟩) n n, .int .i64 0, .int .i64 0, u15, u16, u17, u18, u19, u20, u21, u22, u23, u24, u25, u26, u27, u28, u29, u30, u31, u32, u33, u34, u35, u36, u37, u38, u39, u40, u41, u42, u43, u44, u45, u46, u47, u48, u49, u50, u51, u52, u53, u54, u55, u56, u57, u58, u59, u60, u61, u62, u63, u64, u65, u66, u67, u68, u69, u70, u71, u72, u73, u74, u75, u76, u77, u78, u79, u80, u81, u82, u83, u84, u85, u86, u87, u88, u89, u90, u91, u92, u93, u94, u95, u96, u97, u98, u99, u100, u101, u102, u103, u104, u105, u106, u107, u108, u109, u110, u111, u112, u113, u114, u115, u116, u117, u118, u119, u120, u121, u122, u123, u124, u125, u126, u127, u128, u129, u130, u131, u132, u133, u134, u135, u136, u137, u138, u139, u140, u141, u142, u143, u144, u145, u146, u147, u148, u149, u150, u151, u152, u153, u154, u155, u156, u157, u158, u159, u160, u161, u162, u163, u164, u165, u166, u167, u168, u169, u170, u171, u172, u173, u174, u175, u176, u177, u178, u179, u180, u181, u182, u183, u184, u185, u186, u187, u188, u189, u190, u191, u192, u193, u194, u195, u196, u197, u198, u199, u200, u201, u202, u203, u204, u205, u206, u207, u208, u209, u210, u211, u212, u213, u214, u215, u216, u217, u218, u219, u220, u221, u222, u223, u224, u225, u226, u227, u228, u229, u230, u231, u232, u233, u234, u235, u236, u237, u238, u239, u240, u241, u242, u243, u244, u245, u246, u247, u248, u249, u250, u251], []⟩ wr0 := by
  dsimp only at hex ⊢
  conv => arg 2; whnf
  go_loopw [13, 14] (fun v13 v14 wq => ∃ j : Nat, j ≤ n ∧ v14 = .int .i64 j ∧ v13 = .int .i64 (turnN xs ys j) ∧ KInv w g tb wb nb ob o xs ys wq) (fun _ v14 _ => n - (intOf v14).toNat)
  case atStart => exact ⟨0, Nat.zero_le _, rfl, rfl, I⟩
  case round =>
    clear I
    obtain ⟨j, hj, rfl, rfl, I⟩ := hrel
    have htl := turnN_le xs ys j
    by_cases hlj : j < n
    · obtain ⟨s, hsj⟩ : ∃ s, xs[j]? = some s := ⟨_, List.getElem?_eq_getElem (by have := KL.out.lx; omega)⟩
      obtain ⟨t, htj⟩ : ∃ t, ys[j]? = some t := ⟨_, List.getElem?_eq_getElem (by have := KL.out.ly; omega)⟩
      have KP : Hid (KAt o xs ys n j s t) := Lib.hid ⟨KL.out, hsj, htj, hn⟩
      have HTN := Lib.hid (turnN_next hsj htj)
      clear hsj htj
      go_upto_region 17 with fail
      refine keep_17 w g tb wb nb ob n j o xs ys s t KP wr I ?_
      clear I
      intros
      rename_i w8 I
      go_upto_region 19 with fail
      refine keep_19 w g tb wb nb ob n j o xs ys s t KP w8 I ?_
      clear I
      intros
      rename_i w9 I
      obtain ⟨q, hq⟩ : ∃ q, sameS s t = q := ⟨_, rfl⟩
      rw [hq]
      have HQ := Lib.hid hq
      clear hq
      cases q
      all_goals
        go_upto_block 4 with fail
        refine wp_block ?_
        by_cases ht : opTook o = true
        · refine keep_took w g tb wb nb ob n j o xs ys s t KP w9 I _ HQ.out ht ?_
          clear I
          intros
          rename_i w10 I
          go_wp2_with fail
          go_roundw
          case rel => exact ⟨j + 1, by omega, by go_num, by rw [HTN.out, HQ.out]; first | rfl | go_num, I⟩
          case measure => simp [intOf]; omega
        replace ht : opTook o = false := by simpa using ht
        by_cases h3 : o.kind = 3
        · refine keep_evict w g tb wb nb ob n j o xs ys s t KP w9 I _ HQ.out h3 ?_
          clear I
          intros
          rename_i w10 I
          go_wp2_with fail
          go_roundw
          case rel => exact ⟨j + 1, by omega, by go_num, by rw [HTN.out, HQ.out]; first | rfl | go_num, I⟩
          case measure => simp [intOf]; omega
        by_cases h4 : o.kind = 4
        · refine keep_flush w g tb wb nb ob n j o xs ys s t KP w9 I _ HQ.out h4 ?_
          clear I
          intros
          rename_i w10 I
          go_wp2_with fail
          go_roundw
          case rel => exact ⟨j + 1, by omega, by go_num, by rw [HTN.out, HQ.out]; first | rfl | go_num, I⟩
          case measure => simp [intOf]; omega
        · refine keep_else w g tb wb nb ob n j o xs ys s t KP w9 I _ HQ.out ht h3 h4 ?_
          clear I
          intros
          rename_i w10 I
          go_wp2_with fail
          go_roundw
          case rel => exact ⟨j + 1, by omega, by go_num, by rw [HTN.out, HQ.out]; first | rfl | go_num, I⟩
          case measure => simp [intOf]; omega
    · obtain rfl : j = n := by omega
      go_wp2_with fail
      exact I
end Go.Proofs.YtngcpcgioophcaaDoor
