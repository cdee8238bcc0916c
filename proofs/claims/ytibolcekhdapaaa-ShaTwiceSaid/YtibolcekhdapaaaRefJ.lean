/- The reference's sum, piece by piece: what is added, the bytes behind it. -/
import Derived.Test.YtibolcekhdapaaaRefE
import Derived.Test.YtibolcekhdapaaaRefF
namespace Go.Proofs.Ytibolcekhdapaaa
open Go.RowKit
set_option linter.unusedVariables false
set_option maxRecDepth 10000
set_option linter.unusedSimpArgs false
set_option linter.unnecessarySimpa false

set_option maxRecDepth 1000000 in
set_option maxHeartbeats 4000000 in
theorem ref_L12 {Q : Exit → Act → World → Prop} {u0 u1 u2 u3 u5 u6 u7 u8 u9 u10 u11 u12 u13 u14 u16 u17 u18 u19 u21 u22 u23 u24 u25 u26 u27 u28 u29 u30 u31 u32 u33 u34 u35 u36 u37 u38 u39 u40 u41 u42 u43 u44 u45 u46 u47 u48 u49 u50 u51 u52 u53 u54 u55 u56 u57 u58 u59 u60 u61 u62 u63 u64 u65 u66 u67 u68 u69 u70 u71 u72 u73 u74 u75 u76 u77 u78 u79 u80 u81 u82 u83 u84 u85 u86 u87 u88 u89 u90 u91 u92 u93 u94 u95 u96 u97 u98 u99 u100 u101 u102 u103 u104 u105 u106 u107 u108 u109 u110 u111 u112 u113 u114 u115 u116 u117 u118 u119 u120 u121 u122 u123 u124 u125 u126 u127 u128 u129 u130 u131 u132 u133 u134 u135 u136 u137 u138 u139 u140 u141 u142 u143 u144 u145 u146 u147 u148 u149 u150 u151 u152 u153 u154 u155 u156 u157 u158 u159 u160 u161 u162 u163 u164 u165 u166 u167 u168 u169 u170 u171 u172 u173 u174 u175 u176 u177 u178 u179 u180 u181 u182 u183 u184 u185 u186 u187 u188 u189 u190 u191 u192 u193 u194 u195 u196 u197 u198 u199 u200 u201 u202 u203 u204 u205 u206 u207 u208 u209 u210 u211 u212 u213 u214 u215 u216 u217 u218 u219 u220 u221 u222 u223 u224 u225 u226 u227 u228 u229 u230 u231 u232 u233 u234 u235 u236 u237 u238 u239 u240 u241 u242 u243 u244 u245 u246 u247 u248 u249 u250 u251 u252 u253 u254 u255 u256 u257 u258 u259 u260 u261 u262 u263 u264 u265 u266 u267 u268 u269 u270 u271 u272 u273 u274 u275 u276 u277 : Value} (p4 p15 : Nat) (s T : List UInt32) (w : World) (hs : s.length = 8) (hT : T.length = 8) (hne : p4 ≠ p15) (hb4 : Blk w p4 (u32s s) 57) (hb15 : Blk w p15 (u32s T) 57)
    (hP : ∀ c (a : Act) (w : World) o v, Q (.panic c) (a.put o v) w → Q (.panic c) a w)
    (hQ : ∀ (x20 x227 x228 x229 x230 x231 x232 x233 x234 x235 x236 x237 x238 : Value)  (w1 : World), (Blk w1 p4 (u32s (addL T s)) 57 ∧ Turns [p4] w w1) → Q .normal ⟨(u0 :: u1 :: u2 :: u3 :: (.pointer (some ⟨p4, 0, none⟩)) :: u5 :: u6 :: u7 :: u8 :: u9 :: u10 :: u11 :: u12 :: u13 :: u14 :: (.pointer (some ⟨p15, 0, none⟩)) :: u16 :: u17 :: u18 :: u19 :: x20 :: u21 :: u22 :: u23 :: u24 :: u25 :: u26 :: u27 :: u28 :: u29 :: u30 :: u31 :: u32 :: u33 :: u34 :: u35 :: u36 :: u37 :: u38 :: u39 :: u40 :: u41 :: u42 :: u43 :: u44 :: u45 :: u46 :: u47 :: u48 :: u49 :: u50 :: u51 :: u52 :: u53 :: u54 :: u55 :: u56 :: u57 :: u58 :: u59 :: u60 :: u61 :: u62 :: u63 :: u64 :: u65 :: u66 :: u67 :: u68 :: u69 :: u70 :: u71 :: u72 :: u73 :: u74 :: u75 :: u76 :: u77 :: u78 :: u79 :: u80 :: u81 :: u82 :: u83 :: u84 :: u85 :: u86 :: u87 :: u88 :: u89 :: u90 :: u91 :: u92 :: u93 :: u94 :: u95 :: u96 :: u97 :: u98 :: u99 :: u100 :: u101 :: u102 :: u103 :: u104 :: u105 :: u106 :: u107 :: u108 :: u109 :: u110 :: u111 :: u112 :: u113 :: u114 :: u115 :: u116 :: u117 :: u118 :: u119 :: u120 :: u121 :: u122 :: u123 :: u124 :: u125 :: u126 :: u127 :: u128 :: u129 :: u130 :: u131 :: u132 :: u133 :: u134 :: u135 :: u136 :: u137 :: u138 :: u139 :: u140 :: u141 :: u142 :: u143 :: u144 :: u145 :: u146 :: u147 :: u148 :: u149 :: u150 :: u151 :: u152 :: u153 :: u154 :: u155 :: u156 :: u157 :: u158 :: u159 :: u160 :: u161 :: u162 :: u163 :: u164 :: u165 :: u166 :: u167 :: u168 :: u169 :: u170 :: u171 :: u172 :: u173 :: u174 :: u175 :: u176 :: u177 :: u178 :: u179 :: u180 :: u181 :: u182 :: u183 :: u184 :: u185 :: u186 :: u187 :: u188 :: u189 :: u190 :: u191 :: u192 :: u193 :: u194 :: u195 :: u196 :: u197 :: u198 :: u199 :: u200 :: u201 :: u202 :: u203 :: u204 :: u205 :: u206 :: u207 :: u208 :: u209 :: u210 :: u211 :: u212 :: u213 :: u214 :: u215 :: u216 :: u217 :: u218 :: u219 :: u220 :: u221 :: u222 :: u223 :: u224 :: u225 :: u226 :: x227 :: x228 :: x229 :: x230 :: x231 :: x232 :: x233 :: x234 :: x235 :: x236 :: x237 :: x238 :: u239 :: u240 :: u241 :: u242 :: u243 :: u244 :: u245 :: u246 :: u247 :: u248 :: u249 :: u250 :: u251 :: u252 :: u253 :: u254 :: u255 :: u256 :: u257 :: u258 :: u259 :: u260 :: u261 :: u262 :: u263 :: u264 :: u265 :: u266 :: u267 :: u268 :: u269 :: u270 :: u271 :: u272 :: u273 :: u274 :: u275 :: u276 :: u277 :: []).toArray, []⟩ w1) :
    Code.wp Try.prog ((Try.f11.body.bind (codeBlock 12)).getD .skip) Q ⟨(u0 :: u1 :: u2 :: u3 :: (.pointer (some ⟨p4, 0, none⟩)) :: u5 :: u6 :: u7 :: u8 :: u9 :: u10 :: u11 :: u12 :: u13 :: u14 :: (.pointer (some ⟨p15, 0, none⟩)) :: u16 :: u17 :: u18 :: u19 :: (.int .i64 0) :: u21 :: u22 :: u23 :: u24 :: u25 :: u26 :: u27 :: u28 :: u29 :: u30 :: u31 :: u32 :: u33 :: u34 :: u35 :: u36 :: u37 :: u38 :: u39 :: u40 :: u41 :: u42 :: u43 :: u44 :: u45 :: u46 :: u47 :: u48 :: u49 :: u50 :: u51 :: u52 :: u53 :: u54 :: u55 :: u56 :: u57 :: u58 :: u59 :: u60 :: u61 :: u62 :: u63 :: u64 :: u65 :: u66 :: u67 :: u68 :: u69 :: u70 :: u71 :: u72 :: u73 :: u74 :: u75 :: u76 :: u77 :: u78 :: u79 :: u80 :: u81 :: u82 :: u83 :: u84 :: u85 :: u86 :: u87 :: u88 :: u89 :: u90 :: u91 :: u92 :: u93 :: u94 :: u95 :: u96 :: u97 :: u98 :: u99 :: u100 :: u101 :: u102 :: u103 :: u104 :: u105 :: u106 :: u107 :: u108 :: u109 :: u110 :: u111 :: u112 :: u113 :: u114 :: u115 :: u116 :: u117 :: u118 :: u119 :: u120 :: u121 :: u122 :: u123 :: u124 :: u125 :: u126 :: u127 :: u128 :: u129 :: u130 :: u131 :: u132 :: u133 :: u134 :: u135 :: u136 :: u137 :: u138 :: u139 :: u140 :: u141 :: u142 :: u143 :: u144 :: u145 :: u146 :: u147 :: u148 :: u149 :: u150 :: u151 :: u152 :: u153 :: u154 :: u155 :: u156 :: u157 :: u158 :: u159 :: u160 :: u161 :: u162 :: u163 :: u164 :: u165 :: u166 :: u167 :: u168 :: u169 :: u170 :: u171 :: u172 :: u173 :: u174 :: u175 :: u176 :: u177 :: u178 :: u179 :: u180 :: u181 :: u182 :: u183 :: u184 :: u185 :: u186 :: u187 :: u188 :: u189 :: u190 :: u191 :: u192 :: u193 :: u194 :: u195 :: u196 :: u197 :: u198 :: u199 :: u200 :: u201 :: u202 :: u203 :: u204 :: u205 :: u206 :: u207 :: u208 :: u209 :: u210 :: u211 :: u212 :: u213 :: u214 :: u215 :: u216 :: u217 :: u218 :: u219 :: u220 :: u221 :: u222 :: u223 :: u224 :: u225 :: u226 :: u227 :: u228 :: u229 :: u230 :: u231 :: u232 :: u233 :: u234 :: u235 :: u236 :: u237 :: u238 :: u239 :: u240 :: u241 :: u242 :: u243 :: u244 :: u245 :: u246 :: u247 :: u248 :: u249 :: u250 :: u251 :: u252 :: u253 :: u254 :: u255 :: u256 :: u257 :: u258 :: u259 :: u260 :: u261 :: u262 :: u263 :: u264 :: u265 :: u266 :: u267 :: u268 :: u269 :: u270 :: u271 :: u272 :: u273 :: u274 :: u275 :: u276 :: u277 :: []).toArray, []⟩ w := by
  have HQ := Lib.hid hQ
  have HPP := Lib.hid hP
  clear hQ hP
  conv => arg 2; whnf
  have HL := Lib.hid (And.intro hs (And.intro hT hne))
  have H0 := Lib.hid (And.intro hb4 hb15)
  clear hb4 hb15 hs hT hne
  go_wp2_with fail
  go_loopw [20] (fun i wr => ∃ j : Nat, j ≤ 8 ∧ i = .int .i64 j ∧ Blk wr p4 (u32s (addTo T s j)) 57 ∧ Turns [p4] w wr) (fun i _ => 8 - (intOf i).toNat)
  case atStart => exact ⟨0, by omega, rfl, H0.out.1, Turns.refl _ _⟩
  case round =>
    obtain ⟨j, hj, rfl, v4, td⟩ := hrel
    by_cases hlt : j < 8
    · have hal : (addTo T s j).length = 8 := by rw [addTo_len, HL.out.1]
      have hst : addTo T s (j + 1) = (addTo T s j).set j ((addTo T s j).getD j 0 + T.getD j 0) := rfl
      generalize addTo T s j = U at v4 hal hst
      have b15 := H0.out.2.turns td (by simpa using fun h => HL.out.2.2 h.symm)
      have cj := v4.cell j
      have fj := v4.free j
      have sj := b15.cell j
      rw [u32s_get U _ (by omega)] at cj
      rw [u32s_get T _ (by rw [HL.out.2.1]; exact hlt)] at sj
      have HC := Lib.hid (And.intro cj (And.intro fj sj))
      have HS := Lib.hid hst
      have HV := Lib.hid (And.intro v4 td)
      have hji : (j : Int) < 8 := by omega
      clear hst v4 td hal b15 cj fj sj
      go_upto_region 37 with fail
      refine ref_R37 p4 p15 j _ _ wr hlt HC.out.1 HC.out.2.1 HC.out.2.2 (fun _ _ _ _ _ h => HPP.out _ _ _ _ _ h) ?_
      intro y231 y232 y233 y234 y235 y236 y237 y238 w1 hw1
      subst hw1
      have b4 := ((HV.out.1.set j (.int .u32 ((U.getD j 0 + T.getD j 0).toNat : Int))).drew)
      rw [u32s_set, ← HS.out] at b4
      have tt := (HV.out.2.setCell (p := ⟨p4, j, none⟩) (.inl (by simp)) (.int .u32 ((U.getD j 0 + T.getD j 0).toNat : Int))).drew
      have HN := Lib.hid (And.intro b4 tt)
      clear b4 tt
      go_wp2_with fail
      go_roundw
      case rel => exact ⟨j + 1, by omega, by go_num, HN.out⟩
      case measure => (simp [intOf] <;> omega)
    · obtain rfl : j = 8 := by omega
      have z8 : ¬ ((8 : Nat) : Int) < 8 := by omega
      rw [addTo_all T s HL.out.1] at v4
      have HV := Lib.hid (And.intro v4 td)
      clear v4 td
      go_wp2_with fail
      exact HQ.out _ _ _ _ _ _ _ _ _ _ _ _ _ _ HV.out
theorem out_step (st : List UInt32) (z : List UInt8) (j : Nat) : outTo st (4 * (j + 1)) z = ((((outTo st (4 * j) z).set (4 * j) (UInt8.ofNat ((st.getD j 0).toNat / 2 ^ 24))).set (4 * j + 1) (UInt8.ofNat ((st.getD j 0).toNat / 2 ^ 16))).set (4 * j + 2) (UInt8.ofNat ((st.getD j 0).toNat / 2 ^ 8))).set (4 * j + 3) (UInt8.ofNat ((st.getD j 0).toNat / 2 ^ 0)) := by
  show outTo st (4 * j + 1 + 1 + 1 + 1) z = _
  have e0 : 4 * j / 4 = j := by omega
  have e1 : (4 * j + 1) / 4 = j := by omega
  have e2 : (4 * j + 1 + 1) / 4 = j := by omega
  have e3 : (4 * j + 1 + 1 + 1) / 4 = j := by omega
  have r0 : 24 - 8 * (4 * j % 4) = 24 := by omega
  have r1 : 24 - 8 * ((4 * j + 1) % 4) = 16 := by omega
  have r2 : 24 - 8 * ((4 * j + 1 + 1) % 4) = 8 := by omega
  have r3 : 24 - 8 * ((4 * j + 1 + 1 + 1) % 4) = 0 := by omega
  rw [outTo, outTo, outTo, outTo, e0, e1, e2, e3, r0, r1, r2, r3]
theorem Blk.some_cell {w : World} {g : Nat} {cs : List Value} {t : TypeId} (h : Blk w g cs t) (k : Nat) (hk : k < cs.length) : ∃ q, w.cell? ⟨g, k, none⟩ = some q :=
  ⟨cs[k], by rw [h.cell, List.getElem?_eq_getElem hk]⟩
theorem bvs_set (l : List UInt8) (j : Nat) (x : UInt8) : (bvs l).set j (u8v x) = bvs (l.set j x) := by simp [bvs, List.map_set]
set_option maxRecDepth 1000000 in
set_option maxHeartbeats 4000000 in
theorem ref_L14 {Q : Exit → Act → World → Prop} {u0 u1 u2 u3 u5 u6 u7 u8 u9 u10 u11 u12 u13 u14 u15 u16 u17 u18 u19 u20 u23 u24 u25 u26 u27 u28 u29 u30 u31 u32 u33 u34 u35 u36 u37 u38 u39 u40 u41 u42 u43 u44 u45 u46 u47 u48 u49 u50 u51 u52 u53 u54 u55 u56 u57 u58 u59 u60 u61 u62 u63 u64 u65 u66 u67 u68 u69 u70 u71 u72 u73 u74 u75 u76 u77 u78 u79 u80 u81 u82 u83 u84 u85 u86 u87 u88 u89 u90 u91 u92 u93 u94 u95 u96 u97 u98 u99 u100 u101 u102 u103 u104 u105 u106 u107 u108 u109 u110 u111 u112 u113 u114 u115 u116 u117 u118 u119 u120 u121 u122 u123 u124 u125 u126 u127 u128 u129 u130 u131 u132 u133 u134 u135 u136 u137 u138 u139 u140 u141 u142 u143 u144 u145 u146 u147 u148 u149 u150 u151 u152 u153 u154 u155 u156 u157 u158 u159 u160 u161 u162 u163 u164 u165 u166 u167 u168 u169 u170 u171 u172 u173 u174 u175 u176 u177 u178 u179 u180 u181 u182 u183 u184 u185 u186 u187 u188 u189 u190 u191 u192 u193 u194 u195 u196 u197 u198 u199 u200 u201 u202 u203 u204 u205 u206 u207 u208 u209 u210 u211 u212 u213 u214 u215 u216 u217 u218 u219 u220 u221 u222 u223 u224 u225 u226 u227 u228 u229 u230 u231 u232 u233 u234 u235 u236 u237 u238 u239 u240 u241 u242 u243 u244 u245 u246 u247 u248 u249 u250 u251 u252 u253 u254 u255 u256 u257 u258 u259 u260 u261 u262 u263 u264 u265 u266 u267 u268 u269 u270 u271 u272 u273 u274 u275 u276 u277 : Value} (p4 p21 : Nat) (st : List UInt32) (z : List UInt8) (w : World) (hs : st.length = 8) (hz : z.length = 32) (hne : p4 ≠ p21) (hb4 : Blk w p4 (u32s st) 57) (hb21 : Blk w p21 (bvs z) 24)
    (hP : ∀ c (a : Act) (w : World) o v, Q (.panic c) (a.put o v) w → Q (.panic c) a w)
    (hQ : ∀ (x22 x239 x240 x241 x242 x243 x244 x245 x246 x247 x248 x249 x250 x251 x252 x253 x254 x255 x256 x257 x258 x259 x260 x261 x262 x263 x264 x265 x266 x267 x268 x269 x270 x271 x272 x273 x274 x275 x276 : Value)  (w1 : World), (Blk w1 p21 (bvs (outSha st)) 24 ∧ Turns [p21] w w1) → Q .normal ⟨(u0 :: u1 :: u2 :: u3 :: (.pointer (some ⟨p4, 0, none⟩)) :: u5 :: u6 :: u7 :: u8 :: u9 :: u10 :: u11 :: u12 :: u13 :: u14 :: u15 :: u16 :: u17 :: u18 :: u19 :: u20 :: (.pointer (some ⟨p21, 0, none⟩)) :: x22 :: u23 :: u24 :: u25 :: u26 :: u27 :: u28 :: u29 :: u30 :: u31 :: u32 :: u33 :: u34 :: u35 :: u36 :: u37 :: u38 :: u39 :: u40 :: u41 :: u42 :: u43 :: u44 :: u45 :: u46 :: u47 :: u48 :: u49 :: u50 :: u51 :: u52 :: u53 :: u54 :: u55 :: u56 :: u57 :: u58 :: u59 :: u60 :: u61 :: u62 :: u63 :: u64 :: u65 :: u66 :: u67 :: u68 :: u69 :: u70 :: u71 :: u72 :: u73 :: u74 :: u75 :: u76 :: u77 :: u78 :: u79 :: u80 :: u81 :: u82 :: u83 :: u84 :: u85 :: u86 :: u87 :: u88 :: u89 :: u90 :: u91 :: u92 :: u93 :: u94 :: u95 :: u96 :: u97 :: u98 :: u99 :: u100 :: u101 :: u102 :: u103 :: u104 :: u105 :: u106 :: u107 :: u108 :: u109 :: u110 :: u111 :: u112 :: u113 :: u114 :: u115 :: u116 :: u117 :: u118 :: u119 :: u120 :: u121 :: u122 :: u123 :: u124 :: u125 :: u126 :: u127 :: u128 :: u129 :: u130 :: u131 :: u132 :: u133 :: u134 :: u135 :: u136 :: u137 :: u138 :: u139 :: u140 :: u141 :: u142 :: u143 :: u144 :: u145 :: u146 :: u147 :: u148 :: u149 :: u150 :: u151 :: u152 :: u153 :: u154 :: u155 :: u156 :: u157 :: u158 :: u159 :: u160 :: u161 :: u162 :: u163 :: u164 :: u165 :: u166 :: u167 :: u168 :: u169 :: u170 :: u171 :: u172 :: u173 :: u174 :: u175 :: u176 :: u177 :: u178 :: u179 :: u180 :: u181 :: u182 :: u183 :: u184 :: u185 :: u186 :: u187 :: u188 :: u189 :: u190 :: u191 :: u192 :: u193 :: u194 :: u195 :: u196 :: u197 :: u198 :: u199 :: u200 :: u201 :: u202 :: u203 :: u204 :: u205 :: u206 :: u207 :: u208 :: u209 :: u210 :: u211 :: u212 :: u213 :: u214 :: u215 :: u216 :: u217 :: u218 :: u219 :: u220 :: u221 :: u222 :: u223 :: u224 :: u225 :: u226 :: u227 :: u228 :: u229 :: u230 :: u231 :: u232 :: u233 :: u234 :: u235 :: u236 :: u237 :: u238 :: x239 :: x240 :: x241 :: x242 :: x243 :: x244 :: x245 :: x246 :: x247 :: x248 :: x249 :: x250 :: x251 :: x252 :: x253 :: x254 :: x255 :: x256 :: x257 :: x258 :: x259 :: x260 :: x261 :: x262 :: x263 :: x264 :: x265 :: x266 :: x267 :: x268 :: x269 :: x270 :: x271 :: x272 :: x273 :: x274 :: x275 :: x276 :: u277 :: []).toArray, []⟩ w1) :
    Code.wp Try.prog ((Try.f11.body.bind (codeBlock 14)).getD .skip) Q ⟨(u0 :: u1 :: u2 :: u3 :: (.pointer (some ⟨p4, 0, none⟩)) :: u5 :: u6 :: u7 :: u8 :: u9 :: u10 :: u11 :: u12 :: u13 :: u14 :: u15 :: u16 :: u17 :: u18 :: u19 :: u20 :: (.pointer (some ⟨p21, 0, none⟩)) :: (.int .i64 0) :: u23 :: u24 :: u25 :: u26 :: u27 :: u28 :: u29 :: u30 :: u31 :: u32 :: u33 :: u34 :: u35 :: u36 :: u37 :: u38 :: u39 :: u40 :: u41 :: u42 :: u43 :: u44 :: u45 :: u46 :: u47 :: u48 :: u49 :: u50 :: u51 :: u52 :: u53 :: u54 :: u55 :: u56 :: u57 :: u58 :: u59 :: u60 :: u61 :: u62 :: u63 :: u64 :: u65 :: u66 :: u67 :: u68 :: u69 :: u70 :: u71 :: u72 :: u73 :: u74 :: u75 :: u76 :: u77 :: u78 :: u79 :: u80 :: u81 :: u82 :: u83 :: u84 :: u85 :: u86 :: u87 :: u88 :: u89 :: u90 :: u91 :: u92 :: u93 :: u94 :: u95 :: u96 :: u97 :: u98 :: u99 :: u100 :: u101 :: u102 :: u103 :: u104 :: u105 :: u106 :: u107 :: u108 :: u109 :: u110 :: u111 :: u112 :: u113 :: u114 :: u115 :: u116 :: u117 :: u118 :: u119 :: u120 :: u121 :: u122 :: u123 :: u124 :: u125 :: u126 :: u127 :: u128 :: u129 :: u130 :: u131 :: u132 :: u133 :: u134 :: u135 :: u136 :: u137 :: u138 :: u139 :: u140 :: u141 :: u142 :: u143 :: u144 :: u145 :: u146 :: u147 :: u148 :: u149 :: u150 :: u151 :: u152 :: u153 :: u154 :: u155 :: u156 :: u157 :: u158 :: u159 :: u160 :: u161 :: u162 :: u163 :: u164 :: u165 :: u166 :: u167 :: u168 :: u169 :: u170 :: u171 :: u172 :: u173 :: u174 :: u175 :: u176 :: u177 :: u178 :: u179 :: u180 :: u181 :: u182 :: u183 :: u184 :: u185 :: u186 :: u187 :: u188 :: u189 :: u190 :: u191 :: u192 :: u193 :: u194 :: u195 :: u196 :: u197 :: u198 :: u199 :: u200 :: u201 :: u202 :: u203 :: u204 :: u205 :: u206 :: u207 :: u208 :: u209 :: u210 :: u211 :: u212 :: u213 :: u214 :: u215 :: u216 :: u217 :: u218 :: u219 :: u220 :: u221 :: u222 :: u223 :: u224 :: u225 :: u226 :: u227 :: u228 :: u229 :: u230 :: u231 :: u232 :: u233 :: u234 :: u235 :: u236 :: u237 :: u238 :: u239 :: u240 :: u241 :: u242 :: u243 :: u244 :: u245 :: u246 :: u247 :: u248 :: u249 :: u250 :: u251 :: u252 :: u253 :: u254 :: u255 :: u256 :: u257 :: u258 :: u259 :: u260 :: u261 :: u262 :: u263 :: u264 :: u265 :: u266 :: u267 :: u268 :: u269 :: u270 :: u271 :: u272 :: u273 :: u274 :: u275 :: u276 :: u277 :: []).toArray, []⟩ w := by
  have HQ := Lib.hid hQ
  have HPP := Lib.hid hP
  clear hQ hP
  conv => arg 2; whnf
  have HL := Lib.hid (And.intro hs (And.intro hz hne))
  have H0 := Lib.hid (And.intro hb4 hb21)
  clear hb4 hb21 hs hz hne
  go_wp2_with fail
  go_loopw [22] (fun i wr => ∃ j : Nat, j ≤ 8 ∧ i = .int .i64 j ∧ Blk wr p21 (bvs (outTo st (4 * j) z)) 24 ∧ Turns [p21] w wr) (fun i _ => 8 - (intOf i).toNat)
  case atStart => exact ⟨0, by omega, rfl, H0.out.2, Turns.refl _ _⟩
  case round =>
    obtain ⟨j, hj, rfl, v, td⟩ := hrel
    by_cases hlt : j < 8
    · have hol : (bvs (outTo st (4 * j) z)).length = 32 := by rw [bvs_length, outTo_len]; exact HL.out.2.1
      have hst := out_step st z j
      generalize outTo st (4 * j) z = O at v hol hst
      have b4 := H0.out.1.turns td (by simpa using HL.out.2.2)
      have cj := b4.cell j
      rw [u32s_get st _ (by rw [HL.out.1]; exact hlt)] at cj
      obtain ⟨z0, d0⟩ := v.some_cell (4 * j) (by omega)
      obtain ⟨z1, d1⟩ := v.some_cell (4 * j + 1) (by omega)
      obtain ⟨z2, d2⟩ := v.some_cell (4 * j + 2) (by omega)
      obtain ⟨z3, d3⟩ := v.some_cell (4 * j + 3) (by omega)
      have HC := Lib.hid (And.intro cj (And.intro d0 (And.intro d1 (And.intro d2 d3))))
      have HS := Lib.hid hst
      have HV := Lib.hid (And.intro v td)
      have hji : (j : Int) < 8 := by omega
      clear hst v td hol b4 cj d0 d1 d2 d3
      go_upto_region 42 with fail
      refine ref_R42 p4 p21 j _ _ _ _ _ wr hlt HL.out.2.2 HC.out.1 HC.out.2.1 HC.out.2.2.1 HC.out.2.2.2.1 HC.out.2.2.2.2 (HV.out.1.free _) (HV.out.1.free _) (HV.out.1.free _) (HV.out.1.free _) (fun _ _ _ _ _ h => HPP.out _ _ _ _ _ h) ?_
      intro y243 y244 y245 y246 y247 y248 y249 y250 y251 y252 y253 y254 y255 y256 y257 y258 y259 y260 y261 y262 y263 y264 y265 y266 y267 y268 y269 y270 y271 y272 y273 y274 y275 y276 w1 hw1
      subst hw1
      have V0 : ∀ x : UInt32, Value.int .u8 (IntKind.u8.wrap ((x.toNat : Int) / 16777216)) = u8v (UInt8.ofNat (x.toNat / 2 ^ 24)) := fun x => u8_val x.toNat 24
      have V1 : ∀ x : UInt32, Value.int .u8 (IntKind.u8.wrap ((x.toNat : Int) / 65536)) = u8v (UInt8.ofNat (x.toNat / 2 ^ 16)) := fun x => u8_val x.toNat 16
      have V2 : ∀ x : UInt32, Value.int .u8 (IntKind.u8.wrap ((x.toNat : Int) / 256)) = u8v (UInt8.ofNat (x.toNat / 2 ^ 8)) := fun x => u8_val x.toNat 8
      have V3 : ∀ x : UInt32, Value.int .u8 (IntKind.u8.wrap (x.toNat : Int)) = u8v (UInt8.ofNat (x.toNat / 2 ^ 0)) := fun x => by have := u8_val x.toNat 0; simpa using this
      simp only [V0, V1, V2, V3]
      clear V0 V1 V2 V3
      generalize hv0 : UInt8.ofNat ((st.getD j 0).toNat / 2 ^ 24) = v0 at HS
      generalize hv1 : UInt8.ofNat ((st.getD j 0).toNat / 2 ^ 16) = v1 at HS
      generalize hv2 : UInt8.ofNat ((st.getD j 0).toNat / 2 ^ 8) = v2 at HS
      generalize hv3 : UInt8.ofNat ((st.getD j 0).toNat / 2 ^ 0) = v3 at HS
      have b := ((((HV.out.1.set (4 * j) (u8v v0)).set (4 * j + 1) (u8v v1)).set (4 * j + 2) (u8v v2)).set (4 * j + 3) (u8v v3)).drew
      rw [bvs_set, bvs_set, bvs_set, bvs_set, ← HS.out] at b
      have tt := ((((HV.out.2.setCell (p := ⟨p21, 4 * j, none⟩) (.inl (by simp)) (u8v v0)).setCell (p := ⟨p21, 4 * j + 1, none⟩) (.inl (by simp)) (u8v v1)).setCell (p := ⟨p21, 4 * j + 2, none⟩) (.inl (by simp)) (u8v v2)).setCell (p := ⟨p21, 4 * j + 3, none⟩) (.inl (by simp)) (u8v v3)).drew
      have HN := Lib.hid (And.intro b tt)
      clear b tt hv0 hv1 hv2 hv3
      go_wp2_with fail
      go_roundw
      case rel => exact ⟨j + 1, by omega, by go_num, HN.out⟩
      case measure => (simp [intOf] <;> omega)
    · obtain rfl : j = 8 := by omega
      have z8 : ¬ ((8 : Nat) : Int) < 8 := by omega
      rw [outTo_all st z HL.out.2.1] at v
      have HV := Lib.hid (And.intro v td)
      clear v td
      go_wp2_with fail
      exact HQ.out _ _ _ _ _ _ _ _ _ _ _ _ _ _ _ _ _ _ _ _ _ _ _ _ _ _ _ _ _ _ _ _ _ _ _ _ _ _ _ _ HV.out
end Go.Proofs.Ytibolcekhdapaaa
