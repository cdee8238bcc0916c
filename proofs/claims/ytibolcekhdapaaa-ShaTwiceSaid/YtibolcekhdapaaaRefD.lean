/- The reference's sum, piece by piece: a round, second half. -/
import Derived.Test.YtibolcekhdapaaaRefA
namespace Go.Proofs.Ytibolcekhdapaaa
open Go.RowKit
set_option linter.unusedVariables false
set_option maxRecDepth 10000
set_option linter.unusedSimpArgs false
set_option linter.unnecessarySimpa false

set_option maxRecDepth 1000000 in
set_option maxHeartbeats 4000000 in
theorem ref_R32 {Q : Exit → Act → World → Prop} {u0 u1 u2 u3 u4 u5 u6 u7 u8 u9 u10 u11 u12 u13 u14 u16 u17 u18 u19 u20 u21 u22 u23 u24 u25 u26 u27 u28 u29 u30 u31 u32 u33 u34 u35 u36 u37 u38 u39 u40 u41 u42 u43 u44 u45 u46 u47 u48 u49 u50 u51 u52 u53 u54 u55 u56 u57 u58 u59 u60 u61 u62 u63 u64 u65 u66 u67 u68 u69 u70 u71 u72 u73 u74 u75 u76 u77 u78 u79 u80 u81 u82 u83 u84 u85 u86 u87 u88 u89 u90 u91 u92 u93 u94 u95 u96 u97 u98 u99 u100 u101 u102 u103 u104 u105 u106 u107 u108 u109 u110 u111 u112 u113 u114 u115 u116 u117 u118 u119 u120 u121 u122 u123 u124 u125 u126 u127 u128 u129 u130 u131 u132 u133 u134 u135 u136 u137 u138 u139 u140 u141 u142 u143 u144 u145 u146 u147 u148 u149 u150 u151 u152 u153 u154 u155 u156 u157 u158 u159 u160 u161 u162 u163 u164 u165 u166 u167 u168 u169 u170 u171 u172 u173 u174 u175 u176 u177 u178 u179 u180 u181 u182 u183 u184 u185 u186 u187 u188 u189 u190 u191 u192 u193 u194 u195 u196 u197 u198 u199 u200 u201 u202 u203 u204 u205 u206 u207 u208 u209 u210 u211 u212 u213 u214 u215 u216 u217 u218 u219 u220 u221 u222 u223 u224 u225 u226 u227 u228 u229 u230 u231 u232 u233 u234 u235 u236 u237 u238 u239 u240 u241 u242 u243 u244 u245 u246 u247 u248 u249 u250 u251 u252 u253 u254 u255 u256 u257 u258 u259 u260 u261 u262 u263 u264 u265 u266 u267 u268 u269 u270 u271 u272 u273 u274 u275 u276 u277 : Value} (p15 : Nat) (t0 t1 t2 : UInt32) (wr : World) 
    (c0 : wr.cell? ⟨p15, 0, none⟩ = some (.int .u32 (t0.toNat : Int))) (c1 : wr.cell? ⟨p15, 1, none⟩ = some (.int .u32 (t1.toNat : Int))) (c2 : wr.cell? ⟨p15, 2, none⟩ = some (.int .u32 (t2.toNat : Int)))
    (hP : ∀ c (a : Act) (w : World) o v, Q (.panic c) (a.put o v) w → Q (.panic c) a w)
    (hQ : ∀ (x178 x179 x180 x181 x182 x183 x184 x185 x186 x187 x188 x189 x190 x191 x192 x193 x194 x195 x196 x197 x198 x199 x200 x201 x202 x203 x204 x205 x206 : Value)  (w1 : World), (w1 = wr.drew) → Q .normal ⟨(u0 :: u1 :: u2 :: u3 :: u4 :: u5 :: u6 :: u7 :: u8 :: u9 :: u10 :: u11 :: u12 :: u13 :: u14 :: (.pointer (some ⟨p15, 0, none⟩)) :: u16 :: u17 :: u18 :: (.int .u32 (((ror t0 2 ^^^ ror t0 13 ^^^ ror t0 22) + ((t0 &&& t1) ^^^ (t0 &&& t2) ^^^ (t1 &&& t2))).toNat : Int)) :: u20 :: u21 :: u22 :: u23 :: u24 :: u25 :: u26 :: u27 :: u28 :: u29 :: u30 :: u31 :: u32 :: u33 :: u34 :: u35 :: u36 :: u37 :: u38 :: u39 :: u40 :: u41 :: u42 :: u43 :: u44 :: u45 :: u46 :: u47 :: u48 :: u49 :: u50 :: u51 :: u52 :: u53 :: u54 :: u55 :: u56 :: u57 :: u58 :: u59 :: u60 :: u61 :: u62 :: u63 :: u64 :: u65 :: u66 :: u67 :: u68 :: u69 :: u70 :: u71 :: u72 :: u73 :: u74 :: u75 :: u76 :: u77 :: u78 :: u79 :: u80 :: u81 :: u82 :: u83 :: u84 :: u85 :: u86 :: u87 :: u88 :: u89 :: u90 :: u91 :: u92 :: u93 :: u94 :: u95 :: u96 :: u97 :: u98 :: u99 :: u100 :: u101 :: u102 :: u103 :: u104 :: u105 :: u106 :: u107 :: u108 :: u109 :: u110 :: u111 :: u112 :: u113 :: u114 :: u115 :: u116 :: u117 :: u118 :: u119 :: u120 :: u121 :: u122 :: u123 :: u124 :: u125 :: u126 :: u127 :: u128 :: u129 :: u130 :: u131 :: u132 :: u133 :: u134 :: u135 :: u136 :: u137 :: u138 :: u139 :: u140 :: u141 :: u142 :: u143 :: u144 :: u145 :: u146 :: u147 :: u148 :: u149 :: u150 :: u151 :: u152 :: u153 :: u154 :: u155 :: u156 :: u157 :: u158 :: u159 :: u160 :: u161 :: u162 :: u163 :: u164 :: u165 :: u166 :: u167 :: u168 :: u169 :: u170 :: u171 :: u172 :: u173 :: u174 :: u175 :: u176 :: u177 :: x178 :: x179 :: x180 :: x181 :: x182 :: x183 :: x184 :: x185 :: x186 :: x187 :: x188 :: x189 :: x190 :: x191 :: x192 :: x193 :: x194 :: x195 :: x196 :: x197 :: x198 :: x199 :: x200 :: x201 :: x202 :: x203 :: x204 :: x205 :: x206 :: u207 :: u208 :: u209 :: u210 :: u211 :: u212 :: u213 :: u214 :: u215 :: u216 :: u217 :: u218 :: u219 :: u220 :: u221 :: u222 :: u223 :: u224 :: u225 :: u226 :: u227 :: u228 :: u229 :: u230 :: u231 :: u232 :: u233 :: u234 :: u235 :: u236 :: u237 :: u238 :: u239 :: u240 :: u241 :: u242 :: u243 :: u244 :: u245 :: u246 :: u247 :: u248 :: u249 :: u250 :: u251 :: u252 :: u253 :: u254 :: u255 :: u256 :: u257 :: u258 :: u259 :: u260 :: u261 :: u262 :: u263 :: u264 :: u265 :: u266 :: u267 :: u268 :: u269 :: u270 :: u271 :: u272 :: u273 :: u274 :: u275 :: u276 :: u277 :: []).toArray, []⟩ w1) :
    Code.wp Try.prog ((Try.f11.body.bind (codeRegion 32)).getD .skip) Q ⟨(u0 :: u1 :: u2 :: u3 :: u4 :: u5 :: u6 :: u7 :: u8 :: u9 :: u10 :: u11 :: u12 :: u13 :: u14 :: (.pointer (some ⟨p15, 0, none⟩)) :: u16 :: u17 :: u18 :: u19 :: u20 :: u21 :: u22 :: u23 :: u24 :: u25 :: u26 :: u27 :: u28 :: u29 :: u30 :: u31 :: u32 :: u33 :: u34 :: u35 :: u36 :: u37 :: u38 :: u39 :: u40 :: u41 :: u42 :: u43 :: u44 :: u45 :: u46 :: u47 :: u48 :: u49 :: u50 :: u51 :: u52 :: u53 :: u54 :: u55 :: u56 :: u57 :: u58 :: u59 :: u60 :: u61 :: u62 :: u63 :: u64 :: u65 :: u66 :: u67 :: u68 :: u69 :: u70 :: u71 :: u72 :: u73 :: u74 :: u75 :: u76 :: u77 :: u78 :: u79 :: u80 :: u81 :: u82 :: u83 :: u84 :: u85 :: u86 :: u87 :: u88 :: u89 :: u90 :: u91 :: u92 :: u93 :: u94 :: u95 :: u96 :: u97 :: u98 :: u99 :: u100 :: u101 :: u102 :: u103 :: u104 :: u105 :: u106 :: u107 :: u108 :: u109 :: u110 :: u111 :: u112 :: u113 :: u114 :: u115 :: u116 :: u117 :: u118 :: u119 :: u120 :: u121 :: u122 :: u123 :: u124 :: u125 :: u126 :: u127 :: u128 :: u129 :: u130 :: u131 :: u132 :: u133 :: u134 :: u135 :: u136 :: u137 :: u138 :: u139 :: u140 :: u141 :: u142 :: u143 :: u144 :: u145 :: u146 :: u147 :: u148 :: u149 :: u150 :: u151 :: u152 :: u153 :: u154 :: u155 :: u156 :: u157 :: u158 :: u159 :: u160 :: u161 :: u162 :: u163 :: u164 :: u165 :: u166 :: u167 :: u168 :: u169 :: u170 :: u171 :: u172 :: u173 :: u174 :: u175 :: u176 :: u177 :: u178 :: u179 :: u180 :: u181 :: u182 :: u183 :: u184 :: u185 :: u186 :: u187 :: u188 :: u189 :: u190 :: u191 :: u192 :: u193 :: u194 :: u195 :: u196 :: u197 :: u198 :: u199 :: u200 :: u201 :: u202 :: u203 :: u204 :: u205 :: u206 :: u207 :: u208 :: u209 :: u210 :: u211 :: u212 :: u213 :: u214 :: u215 :: u216 :: u217 :: u218 :: u219 :: u220 :: u221 :: u222 :: u223 :: u224 :: u225 :: u226 :: u227 :: u228 :: u229 :: u230 :: u231 :: u232 :: u233 :: u234 :: u235 :: u236 :: u237 :: u238 :: u239 :: u240 :: u241 :: u242 :: u243 :: u244 :: u245 :: u246 :: u247 :: u248 :: u249 :: u250 :: u251 :: u252 :: u253 :: u254 :: u255 :: u256 :: u257 :: u258 :: u259 :: u260 :: u261 :: u262 :: u263 :: u264 :: u265 :: u266 :: u267 :: u268 :: u269 :: u270 :: u271 :: u272 :: u273 :: u274 :: u275 :: u276 :: u277 :: []).toArray, []⟩ wr := by
  have HQ := Lib.hid hQ
  have HPP := Lib.hid hP
  clear hQ hP
  conv => arg 2; whnf
  have hT : Turns [] wr wr.drew := (Turns.refl _ _).drew
  refine reg_begin (fun W => Turns [] wr W) (fun _ => True) 30 30 #[false, false, false, false, false, false, false, false, false, false, false, false, false, false, false, false, false, false, false, false, false, false, false, false, false, false, false, false, false, false] (by kernel_rfl) (by kernel_rfl) (by kernel_rfl) ?_
  refine reg_take 0 178 29 #[true, false, false, false, false, false, false, false, false, false, false, false, false, false, false, false, false, false, false, false, false, false, false, false, false, false, false, false, false, false] (by rfl) (v := ?_) rfl rfl (by kernel_rfl) (by kernel_rfl) (by kernel_rfl) (by kernel_rfl) (fun _ _ _ h => HPP.out _ _ _ _ _ h) (by rfl) ?_ (Till.mk' hT trivial) ?_
  rotate_left
  · intro W hS; go_simp; all_goals with_reducible rfl
  try simp only [List.setIfInBounds_toArray, List.set_cons_succ, List.set_cons_zero]
  refine reg_take 1 179 28 #[true, true, false, false, false, false, false, false, false, false, false, false, false, false, false, false, false, false, false, false, false, false, false, false, false, false, false, false, false, false] (by rfl) (v := ?_) rfl rfl (by kernel_rfl) (by kernel_rfl) (by kernel_rfl) (by kernel_rfl) (fun _ _ _ h => HPP.out _ _ _ _ _ h) (by rfl) ?_ (Till.mk' hT trivial) ?_
  rotate_left
  · intro W hS; have c2 := cellL hS c0 (by simp); go_simp; all_goals with_reducible rfl
  try simp only [List.setIfInBounds_toArray, List.set_cons_succ, List.set_cons_zero]
  refine reg_take 3 181 27 #[true, true, false, true, false, false, false, false, false, false, false, false, false, false, false, false, false, false, false, false, false, false, false, false, false, false, false, false, false, false] (by rfl) (v := ?_) rfl rfl (by kernel_rfl) (by kernel_rfl) (by kernel_rfl) (by kernel_rfl) (fun _ _ _ h => HPP.out _ _ _ _ _ h) (by rfl) ?_ (Till.mk' hT trivial) ?_
  rotate_left
  · intro W hS; go_simp; all_goals with_reducible rfl
  try simp only [List.setIfInBounds_toArray, List.set_cons_succ, List.set_cons_zero]
  refine reg_take 4 182 26 #[true, true, false, true, true, false, false, false, false, false, false, false, false, false, false, false, false, false, false, false, false, false, false, false, false, false, false, false, false, false] (by rfl) (v := ?_) rfl rfl (by kernel_rfl) (by kernel_rfl) (by kernel_rfl) (by kernel_rfl) (fun _ _ _ h => HPP.out _ _ _ _ _ h) (by rfl) ?_ (Till.mk' hT trivial) ?_
  rotate_left
  · intro W hS; have c2 := cellL hS c0 (by simp); go_simp; all_goals with_reducible rfl
  try simp only [List.setIfInBounds_toArray, List.set_cons_succ, List.set_cons_zero]
  refine reg_take 7 185 25 #[true, true, false, true, true, false, false, true, false, false, false, false, false, false, false, false, false, false, false, false, false, false, false, false, false, false, false, false, false, false] (by rfl) (v := ?_) rfl rfl (by kernel_rfl) (by kernel_rfl) (by kernel_rfl) (by kernel_rfl) (fun _ _ _ h => HPP.out _ _ _ _ _ h) (by rfl) ?_ (Till.mk' hT trivial) ?_
  rotate_left
  · intro W hS; go_simp; all_goals with_reducible rfl
  try simp only [List.setIfInBounds_toArray, List.set_cons_succ, List.set_cons_zero]
  refine reg_take 8 186 24 #[true, true, false, true, true, false, false, true, true, false, false, false, false, false, false, false, false, false, false, false, false, false, false, false, false, false, false, false, false, false] (by rfl) (v := ?_) rfl rfl (by kernel_rfl) (by kernel_rfl) (by kernel_rfl) (by kernel_rfl) (fun _ _ _ h => HPP.out _ _ _ _ _ h) (by rfl) ?_ (Till.mk' hT trivial) ?_
  rotate_left
  · intro W hS; have c2 := cellL hS c0 (by simp); go_simp; all_goals with_reducible rfl
  try simp only [List.setIfInBounds_toArray, List.set_cons_succ, List.set_cons_zero]
  refine reg_take 11 189 23 #[true, true, false, true, true, false, false, true, true, false, false, true, false, false, false, false, false, false, false, false, false, false, false, false, false, false, false, false, false, false] (by rfl) (v := ?_) rfl rfl (by kernel_rfl) (by kernel_rfl) (by kernel_rfl) (by kernel_rfl) (fun _ _ _ h => HPP.out _ _ _ _ _ h) (by rfl) ?_ (Till.mk' hT trivial) ?_
  rotate_left
  · intro W hS; go_simp; all_goals with_reducible rfl
  try simp only [List.setIfInBounds_toArray, List.set_cons_succ, List.set_cons_zero]
  refine reg_take 12 190 22 #[true, true, false, true, true, false, false, true, true, false, false, true, true, false, false, false, false, false, false, false, false, false, false, false, false, false, false, false, false, false] (by rfl) (v := ?_) rfl rfl (by kernel_rfl) (by kernel_rfl) (by kernel_rfl) (by kernel_rfl) (fun _ _ _ h => HPP.out _ _ _ _ _ h) (by rfl) ?_ (Till.mk' hT trivial) ?_
  rotate_left
  · intro W hS; have c2 := cellL hS c0 (by simp); go_simp; all_goals with_reducible rfl
  try simp only [List.setIfInBounds_toArray, List.set_cons_succ, List.set_cons_zero]
  refine reg_take 13 191 21 #[true, true, false, true, true, false, false, true, true, false, false, true, true, true, false, false, false, false, false, false, false, false, false, false, false, false, false, false, false, false] (by rfl) (v := ?_) rfl rfl (by kernel_rfl) (by kernel_rfl) (by kernel_rfl) (by kernel_rfl) (fun _ _ _ h => HPP.out _ _ _ _ _ h) (by rfl) ?_ (Till.mk' hT trivial) ?_
  rotate_left
  · intro W hS; go_simp; all_goals with_reducible rfl
  try simp only [List.setIfInBounds_toArray, List.set_cons_succ, List.set_cons_zero]
  refine reg_take 14 192 20 #[true, true, false, true, true, false, false, true, true, false, false, true, true, true, true, false, false, false, false, false, false, false, false, false, false, false, false, false, false, false] (by rfl) (v := ?_) rfl rfl (by kernel_rfl) (by kernel_rfl) (by kernel_rfl) (by kernel_rfl) (fun _ _ _ h => HPP.out _ _ _ _ _ h) (by rfl) ?_ (Till.mk' hT trivial) ?_
  rotate_left
  · intro W hS; have c2 := cellL hS c1 (by simp); go_simp; all_goals with_reducible rfl
  try simp only [List.setIfInBounds_toArray, List.set_cons_succ, List.set_cons_zero]
  refine reg_take 15 193 19 #[true, true, false, true, true, false, false, true, true, false, false, true, true, true, true, true, false, false, false, false, false, false, false, false, false, false, false, false, false, false] (by rfl) (v := ?_) rfl rfl (by kernel_rfl) (by kernel_rfl) (by kernel_rfl) (by kernel_rfl) (fun _ _ _ h => HPP.out _ _ _ _ _ h) (by rfl) ?_ (Till.mk' hT trivial) ?_
  rotate_left
  · intro W hS; go_simp; all_goals with_reducible rfl
  try simp only [List.setIfInBounds_toArray, List.set_cons_succ, List.set_cons_zero]
  refine reg_take 16 194 18 #[true, true, false, true, true, false, false, true, true, false, false, true, true, true, true, true, true, false, false, false, false, false, false, false, false, false, false, false, false, false] (by rfl) (v := ?_) rfl rfl (by kernel_rfl) (by kernel_rfl) (by kernel_rfl) (by kernel_rfl) (fun _ _ _ h => HPP.out _ _ _ _ _ h) (by rfl) ?_ (Till.mk' hT trivial) ?_
  rotate_left
  · intro W hS; go_simp; all_goals with_reducible rfl
  try simp only [List.setIfInBounds_toArray, List.set_cons_succ, List.set_cons_zero]
  refine reg_take 17 195 17 #[true, true, false, true, true, false, false, true, true, false, false, true, true, true, true, true, true, true, false, false, false, false, false, false, false, false, false, false, false, false] (by rfl) (v := ?_) rfl rfl (by kernel_rfl) (by kernel_rfl) (by kernel_rfl) (by kernel_rfl) (fun _ _ _ h => HPP.out _ _ _ _ _ h) (by rfl) ?_ (Till.mk' hT trivial) ?_
  rotate_left
  · intro W hS; have c2 := cellL hS c0 (by simp); go_simp; all_goals with_reducible rfl
  try simp only [List.setIfInBounds_toArray, List.set_cons_succ, List.set_cons_zero]
  refine reg_take 18 196 16 #[true, true, false, true, true, false, false, true, true, false, false, true, true, true, true, true, true, true, true, false, false, false, false, false, false, false, false, false, false, false] (by rfl) (v := ?_) rfl rfl (by kernel_rfl) (by kernel_rfl) (by kernel_rfl) (by kernel_rfl) (fun _ _ _ h => HPP.out _ _ _ _ _ h) (by rfl) ?_ (Till.mk' hT trivial) ?_
  rotate_left
  · intro W hS; go_simp; all_goals with_reducible rfl
  try simp only [List.setIfInBounds_toArray, List.set_cons_succ, List.set_cons_zero]
  refine reg_take 19 197 15 #[true, true, false, true, true, false, false, true, true, false, false, true, true, true, true, true, true, true, true, true, false, false, false, false, false, false, false, false, false, false] (by rfl) (v := ?_) rfl rfl (by kernel_rfl) (by kernel_rfl) (by kernel_rfl) (by kernel_rfl) (fun _ _ _ h => HPP.out _ _ _ _ _ h) (by rfl) ?_ (Till.mk' hT trivial) ?_
  rotate_left
  · intro W hS; have c2 := cellL hS c2 (by simp); go_simp; all_goals with_reducible rfl
  try simp only [List.setIfInBounds_toArray, List.set_cons_succ, List.set_cons_zero]
  refine reg_take 20 198 14 #[true, true, false, true, true, false, false, true, true, false, false, true, true, true, true, true, true, true, true, true, true, false, false, false, false, false, false, false, false, false] (by rfl) (v := ?_) rfl rfl (by kernel_rfl) (by kernel_rfl) (by kernel_rfl) (by kernel_rfl) (fun _ _ _ h => HPP.out _ _ _ _ _ h) (by rfl) ?_ (Till.mk' hT trivial) ?_
  rotate_left
  · intro W hS; go_simp; all_goals with_reducible rfl
  try simp only [List.setIfInBounds_toArray, List.set_cons_succ, List.set_cons_zero]
  refine reg_take 21 199 13 #[true, true, false, true, true, false, false, true, true, false, false, true, true, true, true, true, true, true, true, true, true, true, false, false, false, false, false, false, false, false] (by rfl) (v := ?_) rfl rfl (by kernel_rfl) (by kernel_rfl) (by kernel_rfl) (by kernel_rfl) (fun _ _ _ h => HPP.out _ _ _ _ _ h) (by rfl) ?_ (Till.mk' hT trivial) ?_
  rotate_left
  · intro W hS; go_simp; all_goals with_reducible rfl
  try simp only [List.setIfInBounds_toArray, List.set_cons_succ, List.set_cons_zero]
  refine reg_take 22 200 12 #[true, true, false, true, true, false, false, true, true, false, false, true, true, true, true, true, true, true, true, true, true, true, true, false, false, false, false, false, false, false] (by rfl) (v := ?_) rfl rfl (by kernel_rfl) (by kernel_rfl) (by kernel_rfl) (by kernel_rfl) (fun _ _ _ h => HPP.out _ _ _ _ _ h) (by rfl) ?_ (Till.mk' hT trivial) ?_
  rotate_left
  · intro W hS; go_simp; all_goals with_reducible rfl
  try simp only [List.setIfInBounds_toArray, List.set_cons_succ, List.set_cons_zero]
  refine reg_take 23 201 11 #[true, true, false, true, true, false, false, true, true, false, false, true, true, true, true, true, true, true, true, true, true, true, true, true, false, false, false, false, false, false] (by rfl) (v := ?_) rfl rfl (by kernel_rfl) (by kernel_rfl) (by kernel_rfl) (by kernel_rfl) (fun _ _ _ h => HPP.out _ _ _ _ _ h) (by rfl) ?_ (Till.mk' hT trivial) ?_
  rotate_left
  · intro W hS; have c2 := cellL hS c1 (by simp); go_simp; all_goals with_reducible rfl
  try simp only [List.setIfInBounds_toArray, List.set_cons_succ, List.set_cons_zero]
  refine reg_take 24 202 10 #[true, true, false, true, true, false, false, true, true, false, false, true, true, true, true, true, true, true, true, true, true, true, true, true, true, false, false, false, false, false] (by rfl) (v := ?_) rfl rfl (by kernel_rfl) (by kernel_rfl) (by kernel_rfl) (by kernel_rfl) (fun _ _ _ h => HPP.out _ _ _ _ _ h) (by rfl) ?_ (Till.mk' hT trivial) ?_
  rotate_left
  · intro W hS; go_simp; all_goals with_reducible rfl
  try simp only [List.setIfInBounds_toArray, List.set_cons_succ, List.set_cons_zero]
  refine reg_take 25 203 9 #[true, true, false, true, true, false, false, true, true, false, false, true, true, true, true, true, true, true, true, true, true, true, true, true, true, true, false, false, false, false] (by rfl) (v := ?_) rfl rfl (by kernel_rfl) (by kernel_rfl) (by kernel_rfl) (by kernel_rfl) (fun _ _ _ h => HPP.out _ _ _ _ _ h) (by rfl) ?_ (Till.mk' hT trivial) ?_
  rotate_left
  · intro W hS; have c2 := cellL hS c2 (by simp); go_simp; all_goals with_reducible rfl
  try simp only [List.setIfInBounds_toArray, List.set_cons_succ, List.set_cons_zero]
  refine reg_take 26 204 8 #[true, true, false, true, true, false, false, true, true, false, false, true, true, true, true, true, true, true, true, true, true, true, true, true, true, true, true, false, false, false] (by rfl) (v := ?_) rfl rfl (by kernel_rfl) (by kernel_rfl) (by kernel_rfl) (by kernel_rfl) (fun _ _ _ h => HPP.out _ _ _ _ _ h) (by rfl) ?_ (Till.mk' hT trivial) ?_
  rotate_left
  · intro W hS; go_simp; all_goals with_reducible rfl
  try simp only [List.setIfInBounds_toArray, List.set_cons_succ, List.set_cons_zero]
  refine reg_take 27 205 7 #[true, true, false, true, true, false, false, true, true, false, false, true, true, true, true, true, true, true, true, true, true, true, true, true, true, true, true, true, false, false] (by rfl) (v := ?_) rfl rfl (by kernel_rfl) (by kernel_rfl) (by kernel_rfl) (by kernel_rfl) (fun _ _ _ h => HPP.out _ _ _ _ _ h) (by rfl) ?_ (Till.mk' hT trivial) ?_
  rotate_left
  · intro W hS; go_simp; all_goals with_reducible rfl
  try simp only [List.setIfInBounds_toArray, List.set_cons_succ, List.set_cons_zero]
  refine reg_one 2 6 #[true, true, true, true, true, false, false, true, true, false, false, true, true, true, true, true, true, true, true, true, true, true, true, true, true, true, true, true, false, false] (by kernel_rfl) rfl (by rfl) (by kernel_rfl) (fun K hK => ?_)
  go_simp
  refine (rot_2 t0 _).mono ?_
  rintro e ww ⟨rfl, rfl⟩
  refine hK _ _ (Till.mk' hT trivial) ?_
  clear hK K
  try simp only [List.setIfInBounds_toArray, List.set_cons_succ, List.set_cons_zero]
  refine reg_one 5 5 #[true, true, true, true, true, true, false, true, true, false, false, true, true, true, true, true, true, true, true, true, true, true, true, true, true, true, true, true, false, false] (by kernel_rfl) rfl (by rfl) (by kernel_rfl) (fun K hK => ?_)
  go_simp
  refine (rot_13 t0 _).mono ?_
  rintro e ww ⟨rfl, rfl⟩
  refine hK _ _ (Till.mk' hT trivial) ?_
  clear hK K
  try simp only [List.setIfInBounds_toArray, List.set_cons_succ, List.set_cons_zero]
  refine reg_take 6 184 4 #[true, true, true, true, true, true, true, true, true, false, false, true, true, true, true, true, true, true, true, true, true, true, true, true, true, true, true, true, false, false] (by rfl) (v := ?_) rfl rfl (by kernel_rfl) (by kernel_rfl) (by kernel_rfl) (by kernel_rfl) (fun _ _ _ h => HPP.out _ _ _ _ _ h) (by rfl) ?_ (Till.mk' hT trivial) ?_
  rotate_left
  · intro W hS; go_simp; all_goals with_reducible rfl
  try simp only [List.setIfInBounds_toArray, List.set_cons_succ, List.set_cons_zero]
  refine reg_one 9 3 #[true, true, true, true, true, true, true, true, true, true, false, true, true, true, true, true, true, true, true, true, true, true, true, true, true, true, true, true, false, false] (by kernel_rfl) rfl (by rfl) (by kernel_rfl) (fun K hK => ?_)
  go_simp
  refine (rot_22 t0 _).mono ?_
  rintro e ww ⟨rfl, rfl⟩
  refine hK _ _ (Till.mk' hT trivial) ?_
  clear hK K
  try simp only [List.setIfInBounds_toArray, List.set_cons_succ, List.set_cons_zero]
  refine reg_take 10 188 2 #[true, true, true, true, true, true, true, true, true, true, true, true, true, true, true, true, true, true, true, true, true, true, true, true, true, true, true, true, false, false] (by rfl) (v := ?_) rfl rfl (by kernel_rfl) (by kernel_rfl) (by kernel_rfl) (by kernel_rfl) (fun _ _ _ h => HPP.out _ _ _ _ _ h) (by rfl) ?_ (Till.mk' hT trivial) ?_
  rotate_left
  · intro W hS; go_simp; all_goals with_reducible rfl
  try simp only [List.setIfInBounds_toArray, List.set_cons_succ, List.set_cons_zero]
  refine reg_take 28 206 1 #[true, true, true, true, true, true, true, true, true, true, true, true, true, true, true, true, true, true, true, true, true, true, true, true, true, true, true, true, true, false] (by rfl) (v := ?_) rfl rfl (by kernel_rfl) (by kernel_rfl) (by kernel_rfl) (by kernel_rfl) (fun _ _ _ h => HPP.out _ _ _ _ _ h) (by rfl) ?_ (Till.mk' hT trivial) ?_
  rotate_left
  · intro W hS; go_simp; all_goals with_reducible rfl
  try simp only [List.setIfInBounds_toArray, List.set_cons_succ, List.set_cons_zero]
  refine reg_take 29 19 0 #[true, true, true, true, true, true, true, true, true, true, true, true, true, true, true, true, true, true, true, true, true, true, true, true, true, true, true, true, true, true] (by rfl) (v := ?_) rfl rfl (by kernel_rfl) (by kernel_rfl) (by kernel_rfl) (by kernel_rfl) (fun _ _ _ h => HPP.out _ _ _ _ _ h) (by rfl) ?_ (Till.mk' hT trivial) ?_
  rotate_left
  · intro W hS; go_simp; all_goals with_reducible rfl
  try simp only [List.setIfInBounds_toArray, List.set_cons_succ, List.set_cons_zero]
  refine reg_done (by kernel_rfl) ?_ _
  simp only [bitsXor, bitsAnd, bitsNot', wrapAdd]
  exact HQ.out _ _ _ _ _ _ _ _ _ _ _ _ _ _ _ _ _ _ _ _ _ _ _ _ _ _ _ _ _ _ rfl
end Go.Proofs.Ytibolcekhdapaaa
