/- The reference's sum, piece by piece: the bytes behind it. -/
import Derived.Test.YtibolcekhdapaaaRefA
namespace Go.Proofs.Ytibolcekhdapaaa
open Go.RowKit
set_option linter.unusedVariables false
set_option maxRecDepth 10000
set_option linter.unusedSimpArgs false
set_option linter.unnecessarySimpa false

set_option maxRecDepth 1000000 in
set_option maxHeartbeats 4000000 in
theorem ref_R42 {Q : Exit → Act → World → Prop} {u0 u1 u2 u3 u5 u6 u7 u8 u9 u10 u11 u12 u13 u14 u15 u16 u17 u18 u19 u20 u23 u24 u25 u26 u27 u28 u29 u30 u31 u32 u33 u34 u35 u36 u37 u38 u39 u40 u41 u42 u43 u44 u45 u46 u47 u48 u49 u50 u51 u52 u53 u54 u55 u56 u57 u58 u59 u60 u61 u62 u63 u64 u65 u66 u67 u68 u69 u70 u71 u72 u73 u74 u75 u76 u77 u78 u79 u80 u81 u82 u83 u84 u85 u86 u87 u88 u89 u90 u91 u92 u93 u94 u95 u96 u97 u98 u99 u100 u101 u102 u103 u104 u105 u106 u107 u108 u109 u110 u111 u112 u113 u114 u115 u116 u117 u118 u119 u120 u121 u122 u123 u124 u125 u126 u127 u128 u129 u130 u131 u132 u133 u134 u135 u136 u137 u138 u139 u140 u141 u142 u143 u144 u145 u146 u147 u148 u149 u150 u151 u152 u153 u154 u155 u156 u157 u158 u159 u160 u161 u162 u163 u164 u165 u166 u167 u168 u169 u170 u171 u172 u173 u174 u175 u176 u177 u178 u179 u180 u181 u182 u183 u184 u185 u186 u187 u188 u189 u190 u191 u192 u193 u194 u195 u196 u197 u198 u199 u200 u201 u202 u203 u204 u205 u206 u207 u208 u209 u210 u211 u212 u213 u214 u215 u216 u217 u218 u219 u220 u221 u222 u223 u224 u225 u226 u227 u228 u229 u230 u231 u232 u233 u234 u235 u236 u237 u238 u239 u240 u241 u242 u243 u244 u245 u246 u247 u248 u249 u250 u251 u252 u253 u254 u255 u256 u257 u258 u259 u260 u261 u262 u263 u264 u265 u266 u267 u268 u269 u270 u271 u272 u273 u274 u275 u276 u277 : Value} (p4 p21 k : Nat) (s : UInt32) (z0 z1 z2 z3 : Value) (wr : World) (hk : k < 8) (hne : p4 ≠ p21)
    (cs : wr.cell? ⟨p4, k, none⟩ = some (.int .u32 (s.toNat : Int)))
    (d0 : wr.cell? ⟨p21, 4 * k, none⟩ = some z0) (d1 : wr.cell? ⟨p21, 4 * k + 1, none⟩ = some z1) (d2 : wr.cell? ⟨p21, 4 * k + 2, none⟩ = some z2) (d3 : wr.cell? ⟨p21, 4 * k + 3, none⟩ = some z3)
    (f0 : wr.frozen? ⟨p21, 4 * k, none⟩ = false) (f1 : wr.frozen? ⟨p21, 4 * k + 1, none⟩ = false) (f2 : wr.frozen? ⟨p21, 4 * k + 2, none⟩ = false) (f3 : wr.frozen? ⟨p21, 4 * k + 3, none⟩ = false)
    (hP : ∀ c (a : Act) (w : World) o v, Q (.panic c) (a.put o v) w → Q (.panic c) a w)
    (hQ : ∀ (x243 x244 x245 x246 x247 x248 x249 x250 x251 x252 x253 x254 x255 x256 x257 x258 x259 x260 x261 x262 x263 x264 x265 x266 x267 x268 x269 x270 x271 x272 x273 x274 x275 x276 : Value)  (w1 : World), (w1 = ((((wr.setCell ⟨p21, 4 * k, none⟩ (.int .u8 (IntKind.u8.wrap ((s.toNat : Int) / 16777216)))).setCell ⟨p21, 4 * k + 1, none⟩ (.int .u8 (IntKind.u8.wrap ((s.toNat : Int) / 65536)))).setCell ⟨p21, 4 * k + 2, none⟩ (.int .u8 (IntKind.u8.wrap ((s.toNat : Int) / 256)))).setCell ⟨p21, 4 * k + 3, none⟩ (.int .u8 (IntKind.u8.wrap ((s.toNat : Int))))).drew) → Q .normal ⟨(u0 :: u1 :: u2 :: u3 :: (.pointer (some ⟨p4, 0, none⟩)) :: u5 :: u6 :: u7 :: u8 :: u9 :: u10 :: u11 :: u12 :: u13 :: u14 :: u15 :: u16 :: u17 :: u18 :: u19 :: u20 :: (.pointer (some ⟨p21, 0, none⟩)) :: (.int .i64 (k : Int)) :: u23 :: u24 :: u25 :: u26 :: u27 :: u28 :: u29 :: u30 :: u31 :: u32 :: u33 :: u34 :: u35 :: u36 :: u37 :: u38 :: u39 :: u40 :: u41 :: u42 :: u43 :: u44 :: u45 :: u46 :: u47 :: u48 :: u49 :: u50 :: u51 :: u52 :: u53 :: u54 :: u55 :: u56 :: u57 :: u58 :: u59 :: u60 :: u61 :: u62 :: u63 :: u64 :: u65 :: u66 :: u67 :: u68 :: u69 :: u70 :: u71 :: u72 :: u73 :: u74 :: u75 :: u76 :: u77 :: u78 :: u79 :: u80 :: u81 :: u82 :: u83 :: u84 :: u85 :: u86 :: u87 :: u88 :: u89 :: u90 :: u91 :: u92 :: u93 :: u94 :: u95 :: u96 :: u97 :: u98 :: u99 :: u100 :: u101 :: u102 :: u103 :: u104 :: u105 :: u106 :: u107 :: u108 :: u109 :: u110 :: u111 :: u112 :: u113 :: u114 :: u115 :: u116 :: u117 :: u118 :: u119 :: u120 :: u121 :: u122 :: u123 :: u124 :: u125 :: u126 :: u127 :: u128 :: u129 :: u130 :: u131 :: u132 :: u133 :: u134 :: u135 :: u136 :: u137 :: u138 :: u139 :: u140 :: u141 :: u142 :: u143 :: u144 :: u145 :: u146 :: u147 :: u148 :: u149 :: u150 :: u151 :: u152 :: u153 :: u154 :: u155 :: u156 :: u157 :: u158 :: u159 :: u160 :: u161 :: u162 :: u163 :: u164 :: u165 :: u166 :: u167 :: u168 :: u169 :: u170 :: u171 :: u172 :: u173 :: u174 :: u175 :: u176 :: u177 :: u178 :: u179 :: u180 :: u181 :: u182 :: u183 :: u184 :: u185 :: u186 :: u187 :: u188 :: u189 :: u190 :: u191 :: u192 :: u193 :: u194 :: u195 :: u196 :: u197 :: u198 :: u199 :: u200 :: u201 :: u202 :: u203 :: u204 :: u205 :: u206 :: u207 :: u208 :: u209 :: u210 :: u211 :: u212 :: u213 :: u214 :: u215 :: u216 :: u217 :: u218 :: u219 :: u220 :: u221 :: u222 :: u223 :: u224 :: u225 :: u226 :: u227 :: u228 :: u229 :: u230 :: u231 :: u232 :: u233 :: u234 :: u235 :: u236 :: u237 :: u238 :: u239 :: u240 :: u241 :: u242 :: x243 :: x244 :: x245 :: x246 :: x247 :: x248 :: x249 :: x250 :: x251 :: x252 :: x253 :: x254 :: x255 :: x256 :: x257 :: x258 :: x259 :: x260 :: x261 :: x262 :: x263 :: x264 :: x265 :: x266 :: x267 :: x268 :: x269 :: x270 :: x271 :: x272 :: x273 :: x274 :: x275 :: x276 :: u277 :: []).toArray, []⟩ w1) :
    Code.wp Try.prog ((Try.f11.body.bind (codeRegion 42)).getD .skip) Q ⟨(u0 :: u1 :: u2 :: u3 :: (.pointer (some ⟨p4, 0, none⟩)) :: u5 :: u6 :: u7 :: u8 :: u9 :: u10 :: u11 :: u12 :: u13 :: u14 :: u15 :: u16 :: u17 :: u18 :: u19 :: u20 :: (.pointer (some ⟨p21, 0, none⟩)) :: (.int .i64 (k : Int)) :: u23 :: u24 :: u25 :: u26 :: u27 :: u28 :: u29 :: u30 :: u31 :: u32 :: u33 :: u34 :: u35 :: u36 :: u37 :: u38 :: u39 :: u40 :: u41 :: u42 :: u43 :: u44 :: u45 :: u46 :: u47 :: u48 :: u49 :: u50 :: u51 :: u52 :: u53 :: u54 :: u55 :: u56 :: u57 :: u58 :: u59 :: u60 :: u61 :: u62 :: u63 :: u64 :: u65 :: u66 :: u67 :: u68 :: u69 :: u70 :: u71 :: u72 :: u73 :: u74 :: u75 :: u76 :: u77 :: u78 :: u79 :: u80 :: u81 :: u82 :: u83 :: u84 :: u85 :: u86 :: u87 :: u88 :: u89 :: u90 :: u91 :: u92 :: u93 :: u94 :: u95 :: u96 :: u97 :: u98 :: u99 :: u100 :: u101 :: u102 :: u103 :: u104 :: u105 :: u106 :: u107 :: u108 :: u109 :: u110 :: u111 :: u112 :: u113 :: u114 :: u115 :: u116 :: u117 :: u118 :: u119 :: u120 :: u121 :: u122 :: u123 :: u124 :: u125 :: u126 :: u127 :: u128 :: u129 :: u130 :: u131 :: u132 :: u133 :: u134 :: u135 :: u136 :: u137 :: u138 :: u139 :: u140 :: u141 :: u142 :: u143 :: u144 :: u145 :: u146 :: u147 :: u148 :: u149 :: u150 :: u151 :: u152 :: u153 :: u154 :: u155 :: u156 :: u157 :: u158 :: u159 :: u160 :: u161 :: u162 :: u163 :: u164 :: u165 :: u166 :: u167 :: u168 :: u169 :: u170 :: u171 :: u172 :: u173 :: u174 :: u175 :: u176 :: u177 :: u178 :: u179 :: u180 :: u181 :: u182 :: u183 :: u184 :: u185 :: u186 :: u187 :: u188 :: u189 :: u190 :: u191 :: u192 :: u193 :: u194 :: u195 :: u196 :: u197 :: u198 :: u199 :: u200 :: u201 :: u202 :: u203 :: u204 :: u205 :: u206 :: u207 :: u208 :: u209 :: u210 :: u211 :: u212 :: u213 :: u214 :: u215 :: u216 :: u217 :: u218 :: u219 :: u220 :: u221 :: u222 :: u223 :: u224 :: u225 :: u226 :: u227 :: u228 :: u229 :: u230 :: u231 :: u232 :: u233 :: u234 :: u235 :: u236 :: u237 :: u238 :: u239 :: u240 :: u241 :: u242 :: u243 :: u244 :: u245 :: u246 :: u247 :: u248 :: u249 :: u250 :: u251 :: u252 :: u253 :: u254 :: u255 :: u256 :: u257 :: u258 :: u259 :: u260 :: u261 :: u262 :: u263 :: u264 :: u265 :: u266 :: u267 :: u268 :: u269 :: u270 :: u271 :: u272 :: u273 :: u274 :: u275 :: u276 :: u277 :: []).toArray, []⟩ wr := by
  have HQ := Lib.hid hQ
  have HPP := Lib.hid hP
  clear hQ hP
  conv => arg 2; whnf
  have qk : (k : Int) < 8 := by omega
  have ha0 : 0 ≤ 4 * (k : Int) := by omega
  have hb0 : 4 * (k : Int) < 32 := by omega
  have hw0 : IntKind.i64.wrap (4 * (k : Int)) = 4 * (k : Int) := IntWalk.i64_in _ (by omega)
  have he0 : (4 * (k : Int)).toNat = 4 * k := by omega
  have ha1 : 0 ≤ 4 * (k : Int) + 1 := by omega
  have hb1 : 4 * (k : Int) + 1 < 32 := by omega
  have hw1 : IntKind.i64.wrap (4 * (k : Int) + 1) = 4 * (k : Int) + 1 := IntWalk.i64_in _ (by omega)
  have he1 : (4 * (k : Int) + 1).toNat = 4 * k + 1 := by omega
  have ha2 : 0 ≤ 4 * (k : Int) + 2 := by omega
  have hb2 : 4 * (k : Int) + 2 < 32 := by omega
  have hw2 : IntKind.i64.wrap (4 * (k : Int) + 2) = 4 * (k : Int) + 2 := IntWalk.i64_in _ (by omega)
  have he2 : (4 * (k : Int) + 2).toNat = 4 * k + 2 := by omega
  have ha3 : 0 ≤ 4 * (k : Int) + 3 := by omega
  have hb3 : 4 * (k : Int) + 3 < 32 := by omega
  have hw3 : IntKind.i64.wrap (4 * (k : Int) + 3) = 4 * (k : Int) + 3 := IntWalk.i64_in _ (by omega)
  have he3 : (4 * (k : Int) + 3).toNat = 4 * k + 3 := by omega
  have hT : Turns [p21] wr wr.drew := (Turns.refl _ _).drew
  refine reg_begin (fun W => Turns [p21] wr W) (fun _ => True) 38 38 #[false, false, false, false, false, false, false, false, false, false, false, false, false, false, false, false, false, false, false, false, false, false, false, false, false, false, false, false, false, false, false, false, false, false, false, false, false, false] (by kernel_rfl) (by kernel_rfl) (by kernel_rfl) ?_
  refine reg_take 0 243 37 #[true, false, false, false, false, false, false, false, false, false, false, false, false, false, false, false, false, false, false, false, false, false, false, false, false, false, false, false, false, false, false, false, false, false, false, false, false, false] (by rfl) (v := ?_) rfl rfl (by kernel_rfl) (by kernel_rfl) (by kernel_rfl) (by kernel_rfl) (fun _ _ _ h => HPP.out _ _ _ _ _ h) (by rfl) ?_ (Till.mk' hT trivial) ?_
  rotate_left
  · intro W hS; go_simp; all_goals with_reducible rfl
  try simp only [List.setIfInBounds_toArray, List.set_cons_succ, List.set_cons_zero]
  refine reg_take 1 244 36 #[true, true, false, false, false, false, false, false, false, false, false, false, false, false, false, false, false, false, false, false, false, false, false, false, false, false, false, false, false, false, false, false, false, false, false, false, false, false] (by rfl) (v := ?_) rfl rfl (by kernel_rfl) (by kernel_rfl) (by kernel_rfl) (by kernel_rfl) (fun _ _ _ h => HPP.out _ _ _ _ _ h) (by rfl) ?_ (Till.mk' hT trivial) ?_
  rotate_left
  · intro W hS; go_simp; all_goals with_reducible rfl
  try simp only [List.setIfInBounds_toArray, List.set_cons_succ, List.set_cons_zero]
  refine reg_take 2 245 35 #[true, true, true, false, false, false, false, false, false, false, false, false, false, false, false, false, false, false, false, false, false, false, false, false, false, false, false, false, false, false, false, false, false, false, false, false, false, false] (by rfl) (v := ?_) rfl rfl (by kernel_rfl) (by kernel_rfl) (by kernel_rfl) (by kernel_rfl) (fun _ _ _ h => HPP.out _ _ _ _ _ h) (by rfl) ?_ (Till.mk' hT trivial) ?_
  rotate_left
  · intro W hS; go_simp; all_goals with_reducible rfl
  try simp only [List.setIfInBounds_toArray, List.set_cons_succ, List.set_cons_zero]
  refine reg_take 3 246 34 #[true, true, true, true, false, false, false, false, false, false, false, false, false, false, false, false, false, false, false, false, false, false, false, false, false, false, false, false, false, false, false, false, false, false, false, false, false, false] (by rfl) (v := ?_) rfl rfl (by kernel_rfl) (by kernel_rfl) (by kernel_rfl) (by kernel_rfl) (fun _ _ _ h => HPP.out _ _ _ _ _ h) (by rfl) ?_ (Till.mk' hT trivial) ?_
  rotate_left
  · intro W hS; go_simp; all_goals with_reducible rfl
  try simp only [List.setIfInBounds_toArray, List.set_cons_succ, List.set_cons_zero]
  refine reg_take 4 247 33 #[true, true, true, true, true, false, false, false, false, false, false, false, false, false, false, false, false, false, false, false, false, false, false, false, false, false, false, false, false, false, false, false, false, false, false, false, false, false] (by rfl) (v := ?_) rfl rfl (by kernel_rfl) (by kernel_rfl) (by kernel_rfl) (by kernel_rfl) (fun _ _ _ h => HPP.out _ _ _ _ _ h) (by rfl) ?_ (Till.mk' hT trivial) ?_
  rotate_left
  · intro W hS; go_simp; all_goals with_reducible rfl
  try simp only [List.setIfInBounds_toArray, List.set_cons_succ, List.set_cons_zero]
  refine reg_take 5 248 32 #[true, true, true, true, true, true, false, false, false, false, false, false, false, false, false, false, false, false, false, false, false, false, false, false, false, false, false, false, false, false, false, false, false, false, false, false, false, false] (by rfl) (v := ?_) rfl rfl (by kernel_rfl) (by kernel_rfl) (by kernel_rfl) (by kernel_rfl) (fun _ _ _ h => HPP.out _ _ _ _ _ h) (by rfl) ?_ (Till.mk' hT trivial) ?_
  rotate_left
  · intro W hS; go_simp; all_goals with_reducible rfl
  try simp only [List.setIfInBounds_toArray, List.set_cons_succ, List.set_cons_zero]
  refine reg_take 6 249 31 #[true, true, true, true, true, true, true, false, false, false, false, false, false, false, false, false, false, false, false, false, false, false, false, false, false, false, false, false, false, false, false, false, false, false, false, false, false, false] (by rfl) (v := ?_) rfl rfl (by kernel_rfl) (by kernel_rfl) (by kernel_rfl) (by kernel_rfl) (fun _ _ _ h => HPP.out _ _ _ _ _ h) (by rfl) ?_ (Till.mk' hT trivial) ?_
  rotate_left
  · intro W hS; go_simp; all_goals with_reducible rfl
  try simp only [List.setIfInBounds_toArray, List.set_cons_succ, List.set_cons_zero]
  refine reg_take 7 250 30 #[true, true, true, true, true, true, true, true, false, false, false, false, false, false, false, false, false, false, false, false, false, false, false, false, false, false, false, false, false, false, false, false, false, false, false, false, false, false] (by rfl) (v := ?_) rfl rfl (by kernel_rfl) (by kernel_rfl) (by kernel_rfl) (by kernel_rfl) (fun _ _ _ h => HPP.out _ _ _ _ _ h) (by rfl) ?_ (Till.mk' hT trivial) ?_
  rotate_left
  · intro W hS; go_simp; all_goals with_reducible rfl
  try simp only [List.setIfInBounds_toArray, List.set_cons_succ, List.set_cons_zero]
  refine reg_take 8 251 29 #[true, true, true, true, true, true, true, true, true, false, false, false, false, false, false, false, false, false, false, false, false, false, false, false, false, false, false, false, false, false, false, false, false, false, false, false, false, false] (by rfl) (v := ?_) rfl rfl (by kernel_rfl) (by kernel_rfl) (by kernel_rfl) (by kernel_rfl) (fun _ _ _ h => HPP.out _ _ _ _ _ h) (by rfl) ?_ (Till.mk' hT trivial) ?_
  rotate_left
  · intro W hS; go_simp; all_goals with_reducible rfl
  try simp only [List.setIfInBounds_toArray, List.set_cons_succ, List.set_cons_zero]
  refine reg_take 9 252 28 #[true, true, true, true, true, true, true, true, true, true, false, false, false, false, false, false, false, false, false, false, false, false, false, false, false, false, false, false, false, false, false, false, false, false, false, false, false, false] (by rfl) (v := ?_) rfl rfl (by kernel_rfl) (by kernel_rfl) (by kernel_rfl) (by kernel_rfl) (fun _ _ _ h => HPP.out _ _ _ _ _ h) (by rfl) ?_ (Till.mk' hT trivial) ?_
  rotate_left
  · intro W hS; go_simp; all_goals with_reducible rfl
  try simp only [List.setIfInBounds_toArray, List.set_cons_succ, List.set_cons_zero]
  refine reg_take 10 253 27 #[true, true, true, true, true, true, true, true, true, true, true, false, false, false, false, false, false, false, false, false, false, false, false, false, false, false, false, false, false, false, false, false, false, false, false, false, false, false] (by rfl) (v := ?_) rfl rfl (by kernel_rfl) (by kernel_rfl) (by kernel_rfl) (by kernel_rfl) (fun _ _ _ h => HPP.out _ _ _ _ _ h) (by rfl) ?_ (Till.mk' hT trivial) ?_
  rotate_left
  · intro W hS; go_simp; all_goals with_reducible rfl
  try simp only [List.setIfInBounds_toArray, List.set_cons_succ, List.set_cons_zero]
  refine reg_take 11 254 26 #[true, true, true, true, true, true, true, true, true, true, true, true, false, false, false, false, false, false, false, false, false, false, false, false, false, false, false, false, false, false, false, false, false, false, false, false, false, false] (by rfl) (v := ?_) rfl rfl (by kernel_rfl) (by kernel_rfl) (by kernel_rfl) (by kernel_rfl) (fun _ _ _ h => HPP.out _ _ _ _ _ h) (by rfl) ?_ (Till.mk' hT trivial) ?_
  rotate_left
  · intro W hS; go_simp; all_goals with_reducible rfl
  try simp only [List.setIfInBounds_toArray, List.set_cons_succ, List.set_cons_zero]
  refine reg_take 12 255 25 #[true, true, true, true, true, true, true, true, true, true, true, true, true, false, false, false, false, false, false, false, false, false, false, false, false, false, false, false, false, false, false, false, false, false, false, false, false, false] (by rfl) (v := ?_) rfl rfl (by kernel_rfl) (by kernel_rfl) (by kernel_rfl) (by kernel_rfl) (fun _ _ _ h => HPP.out _ _ _ _ _ h) (by rfl) ?_ (Till.mk' hT trivial) ?_
  rotate_left
  · intro W hS; go_simp; all_goals with_reducible rfl
  try simp only [List.setIfInBounds_toArray, List.set_cons_succ, List.set_cons_zero]
  refine reg_take 13 256 24 #[true, true, true, true, true, true, true, true, true, true, true, true, true, true, false, false, false, false, false, false, false, false, false, false, false, false, false, false, false, false, false, false, false, false, false, false, false, false] (by rfl) (v := ?_) rfl rfl (by kernel_rfl) (by kernel_rfl) (by kernel_rfl) (by kernel_rfl) (fun _ _ _ h => HPP.out _ _ _ _ _ h) (by rfl) ?_ (Till.mk' hT trivial) ?_
  rotate_left
  · intro W hS; have c2 := cellL hS cs (by simpa using hne); go_simp; all_goals with_reducible rfl
  try simp only [List.setIfInBounds_toArray, List.set_cons_succ, List.set_cons_zero]
  refine reg_take 14 257 23 #[true, true, true, true, true, true, true, true, true, true, true, true, true, true, true, false, false, false, false, false, false, false, false, false, false, false, false, false, false, false, false, false, false, false, false, false, false, false] (by rfl) (v := ?_) rfl rfl (by kernel_rfl) (by kernel_rfl) (by kernel_rfl) (by kernel_rfl) (fun _ _ _ h => HPP.out _ _ _ _ _ h) (by rfl) ?_ (Till.mk' hT trivial) ?_
  rotate_left
  · intro W hS; go_simp; all_goals with_reducible rfl
  try simp only [List.setIfInBounds_toArray, List.set_cons_succ, List.set_cons_zero]
  refine reg_take 15 258 22 #[true, true, true, true, true, true, true, true, true, true, true, true, true, true, true, true, false, false, false, false, false, false, false, false, false, false, false, false, false, false, false, false, false, false, false, false, false, false] (by rfl) (v := ?_) rfl rfl (by kernel_rfl) (by kernel_rfl) (by kernel_rfl) (by kernel_rfl) (fun _ _ _ h => HPP.out _ _ _ _ _ h) (by rfl) ?_ (Till.mk' hT trivial) ?_
  rotate_left
  · intro W hS; go_simp; all_goals with_reducible rfl
  try simp only [List.setIfInBounds_toArray, List.set_cons_succ, List.set_cons_zero]
  refine reg_take 16 259 21 #[true, true, true, true, true, true, true, true, true, true, true, true, true, true, true, true, true, false, false, false, false, false, false, false, false, false, false, false, false, false, false, false, false, false, false, false, false, false] (by rfl) (v := ?_) rfl rfl (by kernel_rfl) (by kernel_rfl) (by kernel_rfl) (by kernel_rfl) (fun _ _ _ h => HPP.out _ _ _ _ _ h) (by rfl) ?_ (Till.mk' hT trivial) ?_
  rotate_left
  · intro W hS; go_simp; all_goals with_reducible rfl
  try simp only [List.setIfInBounds_toArray, List.set_cons_succ, List.set_cons_zero]
  refine reg_take 17 260 20 #[true, true, true, true, true, true, true, true, true, true, true, true, true, true, true, true, true, true, false, false, false, false, false, false, false, false, false, false, false, false, false, false, false, false, false, false, false, false] (by rfl) (v := ?_) rfl rfl (by kernel_rfl) (by kernel_rfl) (by kernel_rfl) (by kernel_rfl) (fun _ _ _ h => HPP.out _ _ _ _ _ h) (by rfl) ?_ (Till.mk' hT trivial) ?_
  rotate_left
  · intro W hS; go_simp; all_goals with_reducible rfl
  try simp only [List.setIfInBounds_toArray, List.set_cons_succ, List.set_cons_zero]
  refine reg_take 18 261 19 #[true, true, true, true, true, true, true, true, true, true, true, true, true, true, true, true, true, true, true, false, false, false, false, false, false, false, false, false, false, false, false, false, false, false, false, false, false, false] (by rfl) (v := ?_) rfl rfl (by kernel_rfl) (by kernel_rfl) (by kernel_rfl) (by kernel_rfl) (fun _ _ _ h => HPP.out _ _ _ _ _ h) (by rfl) ?_ (Till.mk' hT trivial) ?_
  rotate_left
  · intro W hS; have c2 := cellL hS cs (by simpa using hne); go_simp; all_goals with_reducible rfl
  try simp only [List.setIfInBounds_toArray, List.set_cons_succ, List.set_cons_zero]
  refine reg_take 19 262 18 #[true, true, true, true, true, true, true, true, true, true, true, true, true, true, true, true, true, true, true, true, false, false, false, false, false, false, false, false, false, false, false, false, false, false, false, false, false, false] (by rfl) (v := ?_) rfl rfl (by kernel_rfl) (by kernel_rfl) (by kernel_rfl) (by kernel_rfl) (fun _ _ _ h => HPP.out _ _ _ _ _ h) (by rfl) ?_ (Till.mk' hT trivial) ?_
  rotate_left
  · intro W hS; go_simp; all_goals with_reducible rfl
  try simp only [List.setIfInBounds_toArray, List.set_cons_succ, List.set_cons_zero]
  refine reg_take 20 263 17 #[true, true, true, true, true, true, true, true, true, true, true, true, true, true, true, true, true, true, true, true, true, false, false, false, false, false, false, false, false, false, false, false, false, false, false, false, false, false] (by rfl) (v := ?_) rfl rfl (by kernel_rfl) (by kernel_rfl) (by kernel_rfl) (by kernel_rfl) (fun _ _ _ h => HPP.out _ _ _ _ _ h) (by rfl) ?_ (Till.mk' hT trivial) ?_
  rotate_left
  · intro W hS; go_simp; all_goals with_reducible rfl
  try simp only [List.setIfInBounds_toArray, List.set_cons_succ, List.set_cons_zero]
  refine reg_take 21 264 16 #[true, true, true, true, true, true, true, true, true, true, true, true, true, true, true, true, true, true, true, true, true, true, false, false, false, false, false, false, false, false, false, false, false, false, false, false, false, false] (by rfl) (v := ?_) rfl rfl (by kernel_rfl) (by kernel_rfl) (by kernel_rfl) (by kernel_rfl) (fun _ _ _ h => HPP.out _ _ _ _ _ h) (by rfl) ?_ (Till.mk' hT trivial) ?_
  rotate_left
  · intro W hS; go_simp; all_goals with_reducible rfl
  try simp only [List.setIfInBounds_toArray, List.set_cons_succ, List.set_cons_zero]
  refine reg_take 22 265 15 #[true, true, true, true, true, true, true, true, true, true, true, true, true, true, true, true, true, true, true, true, true, true, true, false, false, false, false, false, false, false, false, false, false, false, false, false, false, false] (by rfl) (v := ?_) rfl rfl (by kernel_rfl) (by kernel_rfl) (by kernel_rfl) (by kernel_rfl) (fun _ _ _ h => HPP.out _ _ _ _ _ h) (by rfl) ?_ (Till.mk' hT trivial) ?_
  rotate_left
  · intro W hS; go_simp; all_goals with_reducible rfl
  try simp only [List.setIfInBounds_toArray, List.set_cons_succ, List.set_cons_zero]
  refine reg_take 23 266 14 #[true, true, true, true, true, true, true, true, true, true, true, true, true, true, true, true, true, true, true, true, true, true, true, true, false, false, false, false, false, false, false, false, false, false, false, false, false, false] (by rfl) (v := ?_) rfl rfl (by kernel_rfl) (by kernel_rfl) (by kernel_rfl) (by kernel_rfl) (fun _ _ _ h => HPP.out _ _ _ _ _ h) (by rfl) ?_ (Till.mk' hT trivial) ?_
  rotate_left
  · intro W hS; have c2 := cellL hS cs (by simpa using hne); go_simp; all_goals with_reducible rfl
  try simp only [List.setIfInBounds_toArray, List.set_cons_succ, List.set_cons_zero]
  refine reg_take 24 267 13 #[true, true, true, true, true, true, true, true, true, true, true, true, true, true, true, true, true, true, true, true, true, true, true, true, true, false, false, false, false, false, false, false, false, false, false, false, false, false] (by rfl) (v := ?_) rfl rfl (by kernel_rfl) (by kernel_rfl) (by kernel_rfl) (by kernel_rfl) (fun _ _ _ h => HPP.out _ _ _ _ _ h) (by rfl) ?_ (Till.mk' hT trivial) ?_
  rotate_left
  · intro W hS; go_simp; all_goals with_reducible rfl
  try simp only [List.setIfInBounds_toArray, List.set_cons_succ, List.set_cons_zero]
  refine reg_take 25 268 12 #[true, true, true, true, true, true, true, true, true, true, true, true, true, true, true, true, true, true, true, true, true, true, true, true, true, true, false, false, false, false, false, false, false, false, false, false, false, false] (by rfl) (v := ?_) rfl rfl (by kernel_rfl) (by kernel_rfl) (by kernel_rfl) (by kernel_rfl) (fun _ _ _ h => HPP.out _ _ _ _ _ h) (by rfl) ?_ (Till.mk' hT trivial) ?_
  rotate_left
  · intro W hS; go_simp; all_goals with_reducible rfl
  try simp only [List.setIfInBounds_toArray, List.set_cons_succ, List.set_cons_zero]
  refine reg_take 26 269 11 #[true, true, true, true, true, true, true, true, true, true, true, true, true, true, true, true, true, true, true, true, true, true, true, true, true, true, true, false, false, false, false, false, false, false, false, false, false, false] (by rfl) (v := ?_) rfl rfl (by kernel_rfl) (by kernel_rfl) (by kernel_rfl) (by kernel_rfl) (fun _ _ _ h => HPP.out _ _ _ _ _ h) (by rfl) ?_ (Till.mk' hT trivial) ?_
  rotate_left
  · intro W hS; go_simp; all_goals with_reducible rfl
  try simp only [List.setIfInBounds_toArray, List.set_cons_succ, List.set_cons_zero]
  refine reg_take 27 270 10 #[true, true, true, true, true, true, true, true, true, true, true, true, true, true, true, true, true, true, true, true, true, true, true, true, true, true, true, true, false, false, false, false, false, false, false, false, false, false] (by rfl) (v := ?_) rfl rfl (by kernel_rfl) (by kernel_rfl) (by kernel_rfl) (by kernel_rfl) (fun _ _ _ h => HPP.out _ _ _ _ _ h) (by rfl) ?_ (Till.mk' hT trivial) ?_
  rotate_left
  · intro W hS; go_simp; all_goals with_reducible rfl
  try simp only [List.setIfInBounds_toArray, List.set_cons_succ, List.set_cons_zero]
  refine reg_take 28 271 9 #[true, true, true, true, true, true, true, true, true, true, true, true, true, true, true, true, true, true, true, true, true, true, true, true, true, true, true, true, true, false, false, false, false, false, false, false, false, false] (by rfl) (v := ?_) rfl rfl (by kernel_rfl) (by kernel_rfl) (by kernel_rfl) (by kernel_rfl) (fun _ _ _ h => HPP.out _ _ _ _ _ h) (by rfl) ?_ (Till.mk' hT trivial) ?_
  rotate_left
  · intro W hS; have c2 := cellL hS cs (by simpa using hne); go_simp; all_goals with_reducible rfl
  try simp only [List.setIfInBounds_toArray, List.set_cons_succ, List.set_cons_zero]
  refine reg_take 29 272 8 #[true, true, true, true, true, true, true, true, true, true, true, true, true, true, true, true, true, true, true, true, true, true, true, true, true, true, true, true, true, true, false, false, false, false, false, false, false, false] (by rfl) (v := ?_) rfl rfl (by kernel_rfl) (by kernel_rfl) (by kernel_rfl) (by kernel_rfl) (fun _ _ _ h => HPP.out _ _ _ _ _ h) (by rfl) ?_ (Till.mk' hT trivial) ?_
  rotate_left
  · intro W hS; go_simp; all_goals with_reducible rfl
  try simp only [List.setIfInBounds_toArray, List.set_cons_succ, List.set_cons_zero]
  refine reg_take 30 273 7 #[true, true, true, true, true, true, true, true, true, true, true, true, true, true, true, true, true, true, true, true, true, true, true, true, true, true, true, true, true, true, true, false, false, false, false, false, false, false] (by rfl) (v := ?_) rfl rfl (by kernel_rfl) (by kernel_rfl) (by kernel_rfl) (by kernel_rfl) (fun _ _ _ h => HPP.out _ _ _ _ _ h) (by rfl) ?_ (Till.mk' hT trivial) ?_
  rotate_left
  · intro W hS; go_simp; all_goals with_reducible rfl
  try simp only [List.setIfInBounds_toArray, List.set_cons_succ, List.set_cons_zero]
  refine reg_one 31 6 #[true, true, true, true, true, true, true, true, true, true, true, true, true, true, true, true, true, true, true, true, true, true, true, true, true, true, true, true, true, true, true, true, false, false, false, false, false, false] (by kernel_rfl) rfl (by rfl) (by kernel_rfl) (fun K hK => ?_)
  go_simp
  have hS0 := Turns.setCell (L := [p21]) hT (p := ⟨p21, 4 * k, none⟩) (.inl (by simp)) (.int .u8 (IntKind.u8.wrap ((s.toNat : Int) / 16777216)))
  refine hK _ _ (Till.mk' hS0 trivial) ?_
  clear hK K
  try simp only [List.setIfInBounds_toArray, List.set_cons_succ, List.set_cons_zero]
  refine reg_take 32 274 5 #[true, true, true, true, true, true, true, true, true, true, true, true, true, true, true, true, true, true, true, true, true, true, true, true, true, true, true, true, true, true, true, true, true, false, false, false, false, false] (by rfl) (v := ?_) rfl rfl (by kernel_rfl) (by kernel_rfl) (by kernel_rfl) (by kernel_rfl) (fun _ _ _ h => HPP.out _ _ _ _ _ h) (by rfl) ?_ (Till.mk' hS0 trivial) ?_
  rotate_left
  · intro W hS; go_simp; all_goals with_reducible rfl
  try simp only [List.setIfInBounds_toArray, List.set_cons_succ, List.set_cons_zero]
  refine reg_one 33 4 #[true, true, true, true, true, true, true, true, true, true, true, true, true, true, true, true, true, true, true, true, true, true, true, true, true, true, true, true, true, true, true, true, true, true, false, false, false, false] (by kernel_rfl) rfl (by rfl) (by kernel_rfl) (fun K hK => ?_)
  go_simp
  have hS1 := Turns.setCell (L := [p21]) hS0 (p := ⟨p21, 4 * k + 1, none⟩) (.inl (by simp)) (.int .u8 (IntKind.u8.wrap ((s.toNat : Int) / 65536)))
  refine hK _ _ (Till.mk' hS1 trivial) ?_
  clear hK K
  try simp only [List.setIfInBounds_toArray, List.set_cons_succ, List.set_cons_zero]
  refine reg_take 34 275 3 #[true, true, true, true, true, true, true, true, true, true, true, true, true, true, true, true, true, true, true, true, true, true, true, true, true, true, true, true, true, true, true, true, true, true, true, false, false, false] (by rfl) (v := ?_) rfl rfl (by kernel_rfl) (by kernel_rfl) (by kernel_rfl) (by kernel_rfl) (fun _ _ _ h => HPP.out _ _ _ _ _ h) (by rfl) ?_ (Till.mk' hS1 trivial) ?_
  rotate_left
  · intro W hS; go_simp; all_goals with_reducible rfl
  try simp only [List.setIfInBounds_toArray, List.set_cons_succ, List.set_cons_zero]
  refine reg_one 35 2 #[true, true, true, true, true, true, true, true, true, true, true, true, true, true, true, true, true, true, true, true, true, true, true, true, true, true, true, true, true, true, true, true, true, true, true, true, false, false] (by kernel_rfl) rfl (by rfl) (by kernel_rfl) (fun K hK => ?_)
  go_simp
  have hS2 := Turns.setCell (L := [p21]) hS1 (p := ⟨p21, 4 * k + 2, none⟩) (.inl (by simp)) (.int .u8 (IntKind.u8.wrap ((s.toNat : Int) / 256)))
  refine hK _ _ (Till.mk' hS2 trivial) ?_
  clear hK K
  try simp only [List.setIfInBounds_toArray, List.set_cons_succ, List.set_cons_zero]
  refine reg_take 36 276 1 #[true, true, true, true, true, true, true, true, true, true, true, true, true, true, true, true, true, true, true, true, true, true, true, true, true, true, true, true, true, true, true, true, true, true, true, true, true, false] (by rfl) (v := ?_) rfl rfl (by kernel_rfl) (by kernel_rfl) (by kernel_rfl) (by kernel_rfl) (fun _ _ _ h => HPP.out _ _ _ _ _ h) (by rfl) ?_ (Till.mk' hS2 trivial) ?_
  rotate_left
  · intro W hS; go_simp; all_goals with_reducible rfl
  try simp only [List.setIfInBounds_toArray, List.set_cons_succ, List.set_cons_zero]
  refine reg_one 37 0 #[true, true, true, true, true, true, true, true, true, true, true, true, true, true, true, true, true, true, true, true, true, true, true, true, true, true, true, true, true, true, true, true, true, true, true, true, true, true] (by kernel_rfl) rfl (by rfl) (by kernel_rfl) (fun K hK => ?_)
  go_simp
  have hS3 := Turns.setCell (L := [p21]) hS2 (p := ⟨p21, 4 * k + 3, none⟩) (.inl (by simp)) (.int .u8 (IntKind.u8.wrap ((s.toNat : Int))))
  refine hK _ _ (Till.mk' hS3 trivial) ?_
  clear hK K
  try simp only [List.setIfInBounds_toArray, List.set_cons_succ, List.set_cons_zero]
  refine reg_done (by kernel_rfl) ?_ _
  exact HQ.out _ _ _ _ _ _ _ _ _ _ _ _ _ _ _ _ _ _ _ _ _ _ _ _ _ _ _ _ _ _ _ _ _ _ _ rfl
end Go.Proofs.Ytibolcekhdapaaa
