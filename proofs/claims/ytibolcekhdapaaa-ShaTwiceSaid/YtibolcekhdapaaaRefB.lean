/- The reference's sum, piece by piece: a word out of bytes. -/
import Derived.Test.YtibolcekhdapaaaRefA
namespace Go.Proofs.Ytibolcekhdapaaa
open Go.RowKit
set_option linter.unusedVariables false
set_option maxRecDepth 10000
set_option linter.unusedSimpArgs false
set_option linter.unnecessarySimpa false

set_option maxRecDepth 1000000 in
set_option maxHeartbeats 4000000 in
theorem ref_R20 {Q : Exit → Act → World → Prop} {u0 u1 u2 u3 u4 u6 u7 u9 u12 u13 u14 u15 u16 u17 u18 u19 u20 u21 u22 u23 u24 u25 u26 u27 u28 u29 u30 u31 u32 u33 u34 u35 u36 u37 u38 u39 u40 u41 u42 u43 u44 u45 u46 u47 u48 u49 u50 u51 u52 u53 u54 u55 u56 u57 u58 u59 u60 u61 u62 u63 u64 u65 u66 u67 u68 u69 u70 u71 u72 u73 u74 u75 u76 u77 u78 u79 u80 u81 u82 u83 u84 u85 u86 u87 u88 u89 u90 u91 u92 u93 u94 u95 u96 u97 u98 u99 u100 u101 u102 u103 u104 u105 u106 u107 u108 u109 u110 u111 u112 u113 u114 u115 u116 u117 u118 u119 u120 u121 u122 u123 u124 u125 u126 u127 u128 u129 u130 u131 u132 u133 u134 u135 u136 u137 u138 u139 u140 u141 u142 u143 u144 u145 u146 u147 u148 u149 u150 u151 u152 u153 u154 u155 u156 u157 u158 u159 u160 u161 u162 u163 u164 u165 u166 u167 u168 u169 u170 u171 u172 u173 u174 u175 u176 u177 u178 u179 u180 u181 u182 u183 u184 u185 u186 u187 u188 u189 u190 u191 u192 u193 u194 u195 u196 u197 u198 u199 u200 u201 u202 u203 u204 u205 u206 u207 u208 u209 u210 u211 u212 u213 u214 u215 u216 u217 u218 u219 u220 u221 u222 u223 u224 u225 u226 u227 u228 u229 u230 u231 u232 u233 u234 u235 u236 u237 u238 u239 u240 u241 u242 u243 u244 u245 u246 u247 u248 u249 u250 u251 u252 u253 u254 u255 u256 u257 u258 u259 u260 u261 u262 u263 u264 u265 u266 u267 u268 u269 u270 u271 u272 u273 u274 u275 u276 u277 : Value} (p8 k q n c bb ob y0 y1 y2 y3 : Nat) (vk : Value) (wr : World) (hk : k < 16) (hqn : q + 4 ≤ n) (hn : n ≤ 2000000000) (hy0 : y0 ≤ 255) (hy1 : y1 ≤ 255) (hy2 : y2 ≤ 255) (hy3 : y3 ≤ 255)
    (c0 : wr.cell? ⟨bb, ob + q, none⟩ = some (.int .u8 (y0 : Int))) (c1 : wr.cell? ⟨bb, ob + (q + 1), none⟩ = some (.int .u8 (y1 : Int))) (c2 : wr.cell? ⟨bb, ob + (q + 2), none⟩ = some (.int .u8 (y2 : Int))) (c3 : wr.cell? ⟨bb, ob + (q + 3), none⟩ = some (.int .u8 (y3 : Int)))
    (ck : wr.cell? ⟨p8, k, none⟩ = some vk) (fk : wr.frozen? ⟨p8, k, none⟩ = false)
    (hP : ∀ c (a : Act) (w : World) o v, Q (.panic c) (a.put o v) w → Q (.panic c) a w)
    (hQ : ∀ (x69 x70 x71 x72 x73 x74 x75 x76 x77 x78 x79 x80 x81 x82 x83 x84 x85 x86 x87 x88 x89 x90 x91 x92 x93 x94 x95 x96 x97 x98 x99 : Value)  (w1 : World), (w1 = (wr.setCell ⟨p8, k, none⟩ (.int .u32 (bits .or .u32 (bits .or .u32 (bits .or .u32 ((y0 : Int) * 16777216) ((y1 : Int) * 65536)) ((y2 : Int) * 256)) (y3 : Int)))).drew) → Q .normal ⟨(u0 :: u1 :: u2 :: u3 :: u4 :: (.slice (some ⟨bb, ob, none⟩) n c) :: u6 :: u7 :: (.pointer (some ⟨p8, 0, none⟩)) :: u9 :: (.int .i64 (k : Int)) :: (.int .i64 (q : Int)) :: u12 :: u13 :: u14 :: u15 :: u16 :: u17 :: u18 :: u19 :: u20 :: u21 :: u22 :: u23 :: u24 :: u25 :: u26 :: u27 :: u28 :: u29 :: u30 :: u31 :: u32 :: u33 :: u34 :: u35 :: u36 :: u37 :: u38 :: u39 :: u40 :: u41 :: u42 :: u43 :: u44 :: u45 :: u46 :: u47 :: u48 :: u49 :: u50 :: u51 :: u52 :: u53 :: u54 :: u55 :: u56 :: u57 :: u58 :: u59 :: u60 :: u61 :: u62 :: u63 :: u64 :: u65 :: u66 :: u67 :: u68 :: x69 :: x70 :: x71 :: x72 :: x73 :: x74 :: x75 :: x76 :: x77 :: x78 :: x79 :: x80 :: x81 :: x82 :: x83 :: x84 :: x85 :: x86 :: x87 :: x88 :: x89 :: x90 :: x91 :: x92 :: x93 :: x94 :: x95 :: x96 :: x97 :: x98 :: x99 :: u100 :: u101 :: u102 :: u103 :: u104 :: u105 :: u106 :: u107 :: u108 :: u109 :: u110 :: u111 :: u112 :: u113 :: u114 :: u115 :: u116 :: u117 :: u118 :: u119 :: u120 :: u121 :: u122 :: u123 :: u124 :: u125 :: u126 :: u127 :: u128 :: u129 :: u130 :: u131 :: u132 :: u133 :: u134 :: u135 :: u136 :: u137 :: u138 :: u139 :: u140 :: u141 :: u142 :: u143 :: u144 :: u145 :: u146 :: u147 :: u148 :: u149 :: u150 :: u151 :: u152 :: u153 :: u154 :: u155 :: u156 :: u157 :: u158 :: u159 :: u160 :: u161 :: u162 :: u163 :: u164 :: u165 :: u166 :: u167 :: u168 :: u169 :: u170 :: u171 :: u172 :: u173 :: u174 :: u175 :: u176 :: u177 :: u178 :: u179 :: u180 :: u181 :: u182 :: u183 :: u184 :: u185 :: u186 :: u187 :: u188 :: u189 :: u190 :: u191 :: u192 :: u193 :: u194 :: u195 :: u196 :: u197 :: u198 :: u199 :: u200 :: u201 :: u202 :: u203 :: u204 :: u205 :: u206 :: u207 :: u208 :: u209 :: u210 :: u211 :: u212 :: u213 :: u214 :: u215 :: u216 :: u217 :: u218 :: u219 :: u220 :: u221 :: u222 :: u223 :: u224 :: u225 :: u226 :: u227 :: u228 :: u229 :: u230 :: u231 :: u232 :: u233 :: u234 :: u235 :: u236 :: u237 :: u238 :: u239 :: u240 :: u241 :: u242 :: u243 :: u244 :: u245 :: u246 :: u247 :: u248 :: u249 :: u250 :: u251 :: u252 :: u253 :: u254 :: u255 :: u256 :: u257 :: u258 :: u259 :: u260 :: u261 :: u262 :: u263 :: u264 :: u265 :: u266 :: u267 :: u268 :: u269 :: u270 :: u271 :: u272 :: u273 :: u274 :: u275 :: u276 :: u277 :: []).toArray, []⟩ w1) :
    Code.wp Try.prog ((Try.f11.body.bind (codeRegion 20)).getD .skip) Q ⟨(u0 :: u1 :: u2 :: u3 :: u4 :: (.slice (some ⟨bb, ob, none⟩) n c) :: u6 :: u7 :: (.pointer (some ⟨p8, 0, none⟩)) :: u9 :: (.int .i64 (k : Int)) :: (.int .i64 (q : Int)) :: u12 :: u13 :: u14 :: u15 :: u16 :: u17 :: u18 :: u19 :: u20 :: u21 :: u22 :: u23 :: u24 :: u25 :: u26 :: u27 :: u28 :: u29 :: u30 :: u31 :: u32 :: u33 :: u34 :: u35 :: u36 :: u37 :: u38 :: u39 :: u40 :: u41 :: u42 :: u43 :: u44 :: u45 :: u46 :: u47 :: u48 :: u49 :: u50 :: u51 :: u52 :: u53 :: u54 :: u55 :: u56 :: u57 :: u58 :: u59 :: u60 :: u61 :: u62 :: u63 :: u64 :: u65 :: u66 :: u67 :: u68 :: u69 :: u70 :: u71 :: u72 :: u73 :: u74 :: u75 :: u76 :: u77 :: u78 :: u79 :: u80 :: u81 :: u82 :: u83 :: u84 :: u85 :: u86 :: u87 :: u88 :: u89 :: u90 :: u91 :: u92 :: u93 :: u94 :: u95 :: u96 :: u97 :: u98 :: u99 :: u100 :: u101 :: u102 :: u103 :: u104 :: u105 :: u106 :: u107 :: u108 :: u109 :: u110 :: u111 :: u112 :: u113 :: u114 :: u115 :: u116 :: u117 :: u118 :: u119 :: u120 :: u121 :: u122 :: u123 :: u124 :: u125 :: u126 :: u127 :: u128 :: u129 :: u130 :: u131 :: u132 :: u133 :: u134 :: u135 :: u136 :: u137 :: u138 :: u139 :: u140 :: u141 :: u142 :: u143 :: u144 :: u145 :: u146 :: u147 :: u148 :: u149 :: u150 :: u151 :: u152 :: u153 :: u154 :: u155 :: u156 :: u157 :: u158 :: u159 :: u160 :: u161 :: u162 :: u163 :: u164 :: u165 :: u166 :: u167 :: u168 :: u169 :: u170 :: u171 :: u172 :: u173 :: u174 :: u175 :: u176 :: u177 :: u178 :: u179 :: u180 :: u181 :: u182 :: u183 :: u184 :: u185 :: u186 :: u187 :: u188 :: u189 :: u190 :: u191 :: u192 :: u193 :: u194 :: u195 :: u196 :: u197 :: u198 :: u199 :: u200 :: u201 :: u202 :: u203 :: u204 :: u205 :: u206 :: u207 :: u208 :: u209 :: u210 :: u211 :: u212 :: u213 :: u214 :: u215 :: u216 :: u217 :: u218 :: u219 :: u220 :: u221 :: u222 :: u223 :: u224 :: u225 :: u226 :: u227 :: u228 :: u229 :: u230 :: u231 :: u232 :: u233 :: u234 :: u235 :: u236 :: u237 :: u238 :: u239 :: u240 :: u241 :: u242 :: u243 :: u244 :: u245 :: u246 :: u247 :: u248 :: u249 :: u250 :: u251 :: u252 :: u253 :: u254 :: u255 :: u256 :: u257 :: u258 :: u259 :: u260 :: u261 :: u262 :: u263 :: u264 :: u265 :: u266 :: u267 :: u268 :: u269 :: u270 :: u271 :: u272 :: u273 :: u274 :: u275 :: u276 :: u277 :: []).toArray, []⟩ wr := by
  have HQ := Lib.hid hQ
  have HPP := Lib.hid hP
  clear hQ hP
  conv => arg 2; whnf
  have qk : (k : Int) < 64 := by omega
  have ha0 : 0 ≤ (q : Int) := by omega
  have hb0 : (q : Int) < (n : Int) := by omega
  have hu0 : IntKind.u32.wrap (y0 : Int) = (y0 : Int) := by rw [IntKind.wrap_u32]; omega
  have hx0 : (y0 : Int) ≤ 255 := by omega
  have hv0 : IntKind.u32.wrap ((y0 : Int) * 16777216) = (y0 : Int) * 16777216 := by rw [IntKind.wrap_u32]; omega
  have ha1 : 0 ≤ (q : Int) + 1 := by omega
  have hb1 : (q : Int) + 1 < (n : Int) := by omega
  have hu1 : IntKind.u32.wrap (y1 : Int) = (y1 : Int) := by rw [IntKind.wrap_u32]; omega
  have hx1 : (y1 : Int) ≤ 255 := by omega
  have hw1 : IntKind.i64.wrap ((q : Int) + 1) = (q : Int) + 1 := IntWalk.i64_in _ (by omega)
  have he1 : ((q : Int) + 1).toNat = q + 1 := by omega
  have hv1 : IntKind.u32.wrap ((y1 : Int) * 65536) = (y1 : Int) * 65536 := by rw [IntKind.wrap_u32]; omega
  have ha2 : 0 ≤ (q : Int) + 2 := by omega
  have hb2 : (q : Int) + 2 < (n : Int) := by omega
  have hu2 : IntKind.u32.wrap (y2 : Int) = (y2 : Int) := by rw [IntKind.wrap_u32]; omega
  have hx2 : (y2 : Int) ≤ 255 := by omega
  have hw2 : IntKind.i64.wrap ((q : Int) + 2) = (q : Int) + 2 := IntWalk.i64_in _ (by omega)
  have he2 : ((q : Int) + 2).toNat = q + 2 := by omega
  have hv2 : IntKind.u32.wrap ((y2 : Int) * 256) = (y2 : Int) * 256 := by rw [IntKind.wrap_u32]; omega
  have ha3 : 0 ≤ (q : Int) + 3 := by omega
  have hb3 : (q : Int) + 3 < (n : Int) := by omega
  have hu3 : IntKind.u32.wrap (y3 : Int) = (y3 : Int) := by rw [IntKind.wrap_u32]; omega
  have hx3 : (y3 : Int) ≤ 255 := by omega
  have hw3 : IntKind.i64.wrap ((q : Int) + 3) = (q : Int) + 3 := IntWalk.i64_in _ (by omega)
  have he3 : ((q : Int) + 3).toNat = q + 3 := by omega
  have hT : Turns [] wr wr.drew := (Turns.refl _ _).drew
  clear hqn
  refine reg_begin (fun _ => True) (fun W => Turns [] wr W) 31 32 #[false, false, false, false, false, false, false, false, false, false, false, false, false, false, false, false, false, false, false, false, false, false, false, false, false, false, false, false, false, false, false, false] (by kernel_rfl) (by kernel_rfl) (by kernel_rfl) ?_
  refine reg_take 0 69 31 #[true, false, false, false, false, false, false, false, false, false, false, false, false, false, false, false, false, false, false, false, false, false, false, false, false, false, false, false, false, false, false, false] (by rfl) (v := ?_) rfl rfl (by kernel_rfl) (by kernel_rfl) (by kernel_rfl) (by kernel_rfl) (fun _ _ _ h => HPP.out _ _ _ _ _ h) (by rfl) ?_ (Till.mk' trivial hT) ?_
  rotate_left
  · intro W hS; go_simp; all_goals with_reducible rfl
  try simp only [List.setIfInBounds_toArray, List.set_cons_succ, List.set_cons_zero]
  refine reg_take 1 70 30 #[true, true, false, false, false, false, false, false, false, false, false, false, false, false, false, false, false, false, false, false, false, false, false, false, false, false, false, false, false, false, false, false] (by rfl) (v := ?_) rfl rfl (by kernel_rfl) (by kernel_rfl) (by kernel_rfl) (by kernel_rfl) (fun _ _ _ h => HPP.out _ _ _ _ _ h) (by rfl) ?_ (Till.mk' trivial hT) ?_
  rotate_left
  · intro W hS; go_simp; all_goals with_reducible rfl
  try simp only [List.setIfInBounds_toArray, List.set_cons_succ, List.set_cons_zero]
  refine reg_take 2 71 29 #[true, true, true, false, false, false, false, false, false, false, false, false, false, false, false, false, false, false, false, false, false, false, false, false, false, false, false, false, false, false, false, false] (by rfl) (v := ?_) rfl rfl (by kernel_rfl) (by kernel_rfl) (by kernel_rfl) (by kernel_rfl) (fun _ _ _ h => HPP.out _ _ _ _ _ h) (by rfl) ?_ (Till.mk' trivial hT) ?_
  rotate_left
  · intro W hS; go_simp; all_goals with_reducible rfl
  try simp only [List.setIfInBounds_toArray, List.set_cons_succ, List.set_cons_zero]
  refine reg_take 3 72 28 #[true, true, true, true, false, false, false, false, false, false, false, false, false, false, false, false, false, false, false, false, false, false, false, false, false, false, false, false, false, false, false, false] (by rfl) (v := ?_) rfl rfl (by kernel_rfl) (by kernel_rfl) (by kernel_rfl) (by kernel_rfl) (fun _ _ _ h => HPP.out _ _ _ _ _ h) (by rfl) ?_ (Till.mk' trivial hT) ?_
  rotate_left
  · intro W hS; go_simp; all_goals with_reducible rfl
  try simp only [List.setIfInBounds_toArray, List.set_cons_succ, List.set_cons_zero]
  refine reg_take_t 4 73 27 #[true, true, true, true, true, false, false, false, false, false, false, false, false, false, false, false, false, false, false, false, false, false, false, false, false, false, false, false, false, false, false, false] (by rfl) (v := ?_) rfl rfl (by kernel_rfl) (by kernel_rfl) (by kernel_rfl) (by kernel_rfl) (fun _ _ _ h => HPP.out _ _ _ _ _ h) (by rfl) (by kernel_rfl) (by kernel_rfl) ?_ (Till.mk' trivial hT) ?_
  rotate_left
  · rintro W ⟨-, hS⟩; have c2 := cellL hS c0 (by simp); go_simp; all_goals with_reducible rfl
  try simp only [List.setIfInBounds_toArray, List.set_cons_succ, List.set_cons_zero]
  refine reg_take 5 74 26 #[true, true, true, true, true, true, false, false, false, false, false, false, false, false, false, false, false, false, false, false, false, false, false, false, false, false, false, false, false, false, false, false] (by rfl) (v := ?_) rfl rfl (by kernel_rfl) (by kernel_rfl) (by kernel_rfl) (by kernel_rfl) (fun _ _ _ h => HPP.out _ _ _ _ _ h) (by rfl) ?_ (Till.mk' trivial hT) ?_
  rotate_left
  · intro W hS; go_simp; all_goals with_reducible rfl
  try simp only [List.setIfInBounds_toArray, List.set_cons_succ, List.set_cons_zero]
  refine reg_take 6 75 25 #[true, true, true, true, true, true, true, false, false, false, false, false, false, false, false, false, false, false, false, false, false, false, false, false, false, false, false, false, false, false, false, false] (by rfl) (v := ?_) rfl rfl (by kernel_rfl) (by kernel_rfl) (by kernel_rfl) (by kernel_rfl) (fun _ _ _ h => HPP.out _ _ _ _ _ h) (by rfl) ?_ (Till.mk' trivial hT) ?_
  rotate_left
  · intro W hS; go_simp; all_goals with_reducible rfl
  try simp only [List.setIfInBounds_toArray, List.set_cons_succ, List.set_cons_zero]
  refine reg_take 7 76 24 #[true, true, true, true, true, true, true, true, false, false, false, false, false, false, false, false, false, false, false, false, false, false, false, false, false, false, false, false, false, false, false, false] (by rfl) (v := ?_) rfl rfl (by kernel_rfl) (by kernel_rfl) (by kernel_rfl) (by kernel_rfl) (fun _ _ _ h => HPP.out _ _ _ _ _ h) (by rfl) ?_ (Till.mk' trivial hT) ?_
  rotate_left
  · intro W hS; go_simp; all_goals with_reducible rfl
  try simp only [List.setIfInBounds_toArray, List.set_cons_succ, List.set_cons_zero]
  refine reg_take 8 77 23 #[true, true, true, true, true, true, true, true, true, false, false, false, false, false, false, false, false, false, false, false, false, false, false, false, false, false, false, false, false, false, false, false] (by rfl) (v := ?_) rfl rfl (by kernel_rfl) (by kernel_rfl) (by kernel_rfl) (by kernel_rfl) (fun _ _ _ h => HPP.out _ _ _ _ _ h) (by rfl) ?_ (Till.mk' trivial hT) ?_
  rotate_left
  · intro W hS; go_simp; all_goals with_reducible rfl
  try simp only [List.setIfInBounds_toArray, List.set_cons_succ, List.set_cons_zero]
  refine reg_take 9 78 22 #[true, true, true, true, true, true, true, true, true, true, false, false, false, false, false, false, false, false, false, false, false, false, false, false, false, false, false, false, false, false, false, false] (by rfl) (v := ?_) rfl rfl (by kernel_rfl) (by kernel_rfl) (by kernel_rfl) (by kernel_rfl) (fun _ _ _ h => HPP.out _ _ _ _ _ h) (by rfl) ?_ (Till.mk' trivial hT) ?_
  rotate_left
  · intro W hS; go_simp; all_goals with_reducible rfl
  try simp only [List.setIfInBounds_toArray, List.set_cons_succ, List.set_cons_zero]
  refine reg_take 10 79 21 #[true, true, true, true, true, true, true, true, true, true, true, false, false, false, false, false, false, false, false, false, false, false, false, false, false, false, false, false, false, false, false, false] (by rfl) (v := ?_) rfl rfl (by kernel_rfl) (by kernel_rfl) (by kernel_rfl) (by kernel_rfl) (fun _ _ _ h => HPP.out _ _ _ _ _ h) (by rfl) ?_ (Till.mk' trivial hT) ?_
  rotate_left
  · intro W hS; go_simp; all_goals with_reducible rfl
  try simp only [List.setIfInBounds_toArray, List.set_cons_succ, List.set_cons_zero]
  refine reg_take_t 11 80 20 #[true, true, true, true, true, true, true, true, true, true, true, true, false, false, false, false, false, false, false, false, false, false, false, false, false, false, false, false, false, false, false, false] (by rfl) (v := ?_) rfl rfl (by kernel_rfl) (by kernel_rfl) (by kernel_rfl) (by kernel_rfl) (fun _ _ _ h => HPP.out _ _ _ _ _ h) (by rfl) (by kernel_rfl) (by kernel_rfl) ?_ (Till.mk' trivial hT) ?_
  rotate_left
  · rintro W ⟨-, hS⟩; have c2 := cellL hS c1 (by simp); go_simp; all_goals with_reducible rfl
  try simp only [List.setIfInBounds_toArray, List.set_cons_succ, List.set_cons_zero]
  refine reg_take 12 81 19 #[true, true, true, true, true, true, true, true, true, true, true, true, true, false, false, false, false, false, false, false, false, false, false, false, false, false, false, false, false, false, false, false] (by rfl) (v := ?_) rfl rfl (by kernel_rfl) (by kernel_rfl) (by kernel_rfl) (by kernel_rfl) (fun _ _ _ h => HPP.out _ _ _ _ _ h) (by rfl) ?_ (Till.mk' trivial hT) ?_
  rotate_left
  · intro W hS; go_simp; all_goals with_reducible rfl
  try simp only [List.setIfInBounds_toArray, List.set_cons_succ, List.set_cons_zero]
  refine reg_take 13 82 18 #[true, true, true, true, true, true, true, true, true, true, true, true, true, true, false, false, false, false, false, false, false, false, false, false, false, false, false, false, false, false, false, false] (by rfl) (v := ?_) rfl rfl (by kernel_rfl) (by kernel_rfl) (by kernel_rfl) (by kernel_rfl) (fun _ _ _ h => HPP.out _ _ _ _ _ h) (by rfl) ?_ (Till.mk' trivial hT) ?_
  rotate_left
  · intro W hS; go_simp; all_goals with_reducible rfl
  try simp only [List.setIfInBounds_toArray, List.set_cons_succ, List.set_cons_zero]
  refine reg_take 14 83 17 #[true, true, true, true, true, true, true, true, true, true, true, true, true, true, true, false, false, false, false, false, false, false, false, false, false, false, false, false, false, false, false, false] (by rfl) (v := ?_) rfl rfl (by kernel_rfl) (by kernel_rfl) (by kernel_rfl) (by kernel_rfl) (fun _ _ _ h => HPP.out _ _ _ _ _ h) (by rfl) ?_ (Till.mk' trivial hT) ?_
  rotate_left
  · intro W hS; go_simp; all_goals with_reducible rfl
  try simp only [List.setIfInBounds_toArray, List.set_cons_succ, List.set_cons_zero]
  refine reg_take 15 84 16 #[true, true, true, true, true, true, true, true, true, true, true, true, true, true, true, true, false, false, false, false, false, false, false, false, false, false, false, false, false, false, false, false] (by rfl) (v := ?_) rfl rfl (by kernel_rfl) (by kernel_rfl) (by kernel_rfl) (by kernel_rfl) (fun _ _ _ h => HPP.out _ _ _ _ _ h) (by rfl) ?_ (Till.mk' trivial hT) ?_
  rotate_left
  · intro W hS; go_simp; all_goals with_reducible rfl
  try simp only [List.setIfInBounds_toArray, List.set_cons_succ, List.set_cons_zero]
  refine reg_take 16 85 15 #[true, true, true, true, true, true, true, true, true, true, true, true, true, true, true, true, true, false, false, false, false, false, false, false, false, false, false, false, false, false, false, false] (by rfl) (v := ?_) rfl rfl (by kernel_rfl) (by kernel_rfl) (by kernel_rfl) (by kernel_rfl) (fun _ _ _ h => HPP.out _ _ _ _ _ h) (by rfl) ?_ (Till.mk' trivial hT) ?_
  rotate_left
  · intro W hS; go_simp; all_goals with_reducible rfl
  try simp only [List.setIfInBounds_toArray, List.set_cons_succ, List.set_cons_zero]
  refine reg_take 17 86 14 #[true, true, true, true, true, true, true, true, true, true, true, true, true, true, true, true, true, true, false, false, false, false, false, false, false, false, false, false, false, false, false, false] (by rfl) (v := ?_) rfl rfl (by kernel_rfl) (by kernel_rfl) (by kernel_rfl) (by kernel_rfl) (fun _ _ _ h => HPP.out _ _ _ _ _ h) (by rfl) ?_ (Till.mk' trivial hT) ?_
  rotate_left
  · intro W hS; go_simp; all_goals with_reducible rfl
  try simp only [List.setIfInBounds_toArray, List.set_cons_succ, List.set_cons_zero]
  refine reg_take 18 87 13 #[true, true, true, true, true, true, true, true, true, true, true, true, true, true, true, true, true, true, true, false, false, false, false, false, false, false, false, false, false, false, false, false] (by rfl) (v := ?_) rfl rfl (by kernel_rfl) (by kernel_rfl) (by kernel_rfl) (by kernel_rfl) (fun _ _ _ h => HPP.out _ _ _ _ _ h) (by rfl) ?_ (Till.mk' trivial hT) ?_
  rotate_left
  · intro W hS; go_simp; all_goals with_reducible rfl
  try simp only [List.setIfInBounds_toArray, List.set_cons_succ, List.set_cons_zero]
  refine reg_take_t 19 88 12 #[true, true, true, true, true, true, true, true, true, true, true, true, true, true, true, true, true, true, true, true, false, false, false, false, false, false, false, false, false, false, false, false] (by rfl) (v := ?_) rfl rfl (by kernel_rfl) (by kernel_rfl) (by kernel_rfl) (by kernel_rfl) (fun _ _ _ h => HPP.out _ _ _ _ _ h) (by rfl) (by kernel_rfl) (by kernel_rfl) ?_ (Till.mk' trivial hT) ?_
  rotate_left
  · rintro W ⟨-, hS⟩; have c2 := cellL hS c2 (by simp); go_simp; all_goals with_reducible rfl
  try simp only [List.setIfInBounds_toArray, List.set_cons_succ, List.set_cons_zero]
  refine reg_take 20 89 11 #[true, true, true, true, true, true, true, true, true, true, true, true, true, true, true, true, true, true, true, true, true, false, false, false, false, false, false, false, false, false, false, false] (by rfl) (v := ?_) rfl rfl (by kernel_rfl) (by kernel_rfl) (by kernel_rfl) (by kernel_rfl) (fun _ _ _ h => HPP.out _ _ _ _ _ h) (by rfl) ?_ (Till.mk' trivial hT) ?_
  rotate_left
  · intro W hS; go_simp; all_goals with_reducible rfl
  try simp only [List.setIfInBounds_toArray, List.set_cons_succ, List.set_cons_zero]
  refine reg_take 21 90 10 #[true, true, true, true, true, true, true, true, true, true, true, true, true, true, true, true, true, true, true, true, true, true, false, false, false, false, false, false, false, false, false, false] (by rfl) (v := ?_) rfl rfl (by kernel_rfl) (by kernel_rfl) (by kernel_rfl) (by kernel_rfl) (fun _ _ _ h => HPP.out _ _ _ _ _ h) (by rfl) ?_ (Till.mk' trivial hT) ?_
  rotate_left
  · intro W hS; go_simp; all_goals with_reducible rfl
  try simp only [List.setIfInBounds_toArray, List.set_cons_succ, List.set_cons_zero]
  refine reg_take 22 91 9 #[true, true, true, true, true, true, true, true, true, true, true, true, true, true, true, true, true, true, true, true, true, true, true, false, false, false, false, false, false, false, false, false] (by rfl) (v := ?_) rfl rfl (by kernel_rfl) (by kernel_rfl) (by kernel_rfl) (by kernel_rfl) (fun _ _ _ h => HPP.out _ _ _ _ _ h) (by rfl) ?_ (Till.mk' trivial hT) ?_
  rotate_left
  · intro W hS; go_simp; all_goals with_reducible rfl
  try simp only [List.setIfInBounds_toArray, List.set_cons_succ, List.set_cons_zero]
  refine reg_take 23 92 8 #[true, true, true, true, true, true, true, true, true, true, true, true, true, true, true, true, true, true, true, true, true, true, true, true, false, false, false, false, false, false, false, false] (by rfl) (v := ?_) rfl rfl (by kernel_rfl) (by kernel_rfl) (by kernel_rfl) (by kernel_rfl) (fun _ _ _ h => HPP.out _ _ _ _ _ h) (by rfl) ?_ (Till.mk' trivial hT) ?_
  rotate_left
  · intro W hS; go_simp; all_goals with_reducible rfl
  try simp only [List.setIfInBounds_toArray, List.set_cons_succ, List.set_cons_zero]
  refine reg_take 24 93 7 #[true, true, true, true, true, true, true, true, true, true, true, true, true, true, true, true, true, true, true, true, true, true, true, true, true, false, false, false, false, false, false, false] (by rfl) (v := ?_) rfl rfl (by kernel_rfl) (by kernel_rfl) (by kernel_rfl) (by kernel_rfl) (fun _ _ _ h => HPP.out _ _ _ _ _ h) (by rfl) ?_ (Till.mk' trivial hT) ?_
  rotate_left
  · intro W hS; go_simp; all_goals with_reducible rfl
  try simp only [List.setIfInBounds_toArray, List.set_cons_succ, List.set_cons_zero]
  refine reg_take 25 94 6 #[true, true, true, true, true, true, true, true, true, true, true, true, true, true, true, true, true, true, true, true, true, true, true, true, true, true, false, false, false, false, false, false] (by rfl) (v := ?_) rfl rfl (by kernel_rfl) (by kernel_rfl) (by kernel_rfl) (by kernel_rfl) (fun _ _ _ h => HPP.out _ _ _ _ _ h) (by rfl) ?_ (Till.mk' trivial hT) ?_
  rotate_left
  · intro W hS; go_simp; all_goals with_reducible rfl
  try simp only [List.setIfInBounds_toArray, List.set_cons_succ, List.set_cons_zero]
  refine reg_take 26 95 5 #[true, true, true, true, true, true, true, true, true, true, true, true, true, true, true, true, true, true, true, true, true, true, true, true, true, true, true, false, false, false, false, false] (by rfl) (v := ?_) rfl rfl (by kernel_rfl) (by kernel_rfl) (by kernel_rfl) (by kernel_rfl) (fun _ _ _ h => HPP.out _ _ _ _ _ h) (by rfl) ?_ (Till.mk' trivial hT) ?_
  rotate_left
  · intro W hS; go_simp; all_goals with_reducible rfl
  try simp only [List.setIfInBounds_toArray, List.set_cons_succ, List.set_cons_zero]
  refine reg_take_t 27 96 4 #[true, true, true, true, true, true, true, true, true, true, true, true, true, true, true, true, true, true, true, true, true, true, true, true, true, true, true, true, false, false, false, false] (by rfl) (v := ?_) rfl rfl (by kernel_rfl) (by kernel_rfl) (by kernel_rfl) (by kernel_rfl) (fun _ _ _ h => HPP.out _ _ _ _ _ h) (by rfl) (by kernel_rfl) (by kernel_rfl) ?_ (Till.mk' trivial hT) ?_
  rotate_left
  · rintro W ⟨-, hS⟩; have c2 := cellL hS c3 (by simp); go_simp; all_goals with_reducible rfl
  try simp only [List.setIfInBounds_toArray, List.set_cons_succ, List.set_cons_zero]
  refine reg_take 28 97 3 #[true, true, true, true, true, true, true, true, true, true, true, true, true, true, true, true, true, true, true, true, true, true, true, true, true, true, true, true, true, false, false, false] (by rfl) (v := ?_) rfl rfl (by kernel_rfl) (by kernel_rfl) (by kernel_rfl) (by kernel_rfl) (fun _ _ _ h => HPP.out _ _ _ _ _ h) (by rfl) ?_ (Till.mk' trivial hT) ?_
  rotate_left
  · intro W hS; go_simp; all_goals with_reducible rfl
  try simp only [List.setIfInBounds_toArray, List.set_cons_succ, List.set_cons_zero]
  refine reg_take 29 98 2 #[true, true, true, true, true, true, true, true, true, true, true, true, true, true, true, true, true, true, true, true, true, true, true, true, true, true, true, true, true, true, false, false] (by rfl) (v := ?_) rfl rfl (by kernel_rfl) (by kernel_rfl) (by kernel_rfl) (by kernel_rfl) (fun _ _ _ h => HPP.out _ _ _ _ _ h) (by rfl) ?_ (Till.mk' trivial hT) ?_
  rotate_left
  · intro W hS; go_simp; all_goals with_reducible rfl
  try simp only [List.setIfInBounds_toArray, List.set_cons_succ, List.set_cons_zero]
  refine reg_take 30 99 1 #[true, true, true, true, true, true, true, true, true, true, true, true, true, true, true, true, true, true, true, true, true, true, true, true, true, true, true, true, true, true, true, false] (by rfl) (v := ?_) rfl rfl (by kernel_rfl) (by kernel_rfl) (by kernel_rfl) (by kernel_rfl) (fun _ _ _ h => HPP.out _ _ _ _ _ h) (by rfl) ?_ (Till.mk' trivial hT) ?_
  rotate_left
  · intro W hS; go_simp; all_goals with_reducible rfl
  try simp only [List.setIfInBounds_toArray, List.set_cons_succ, List.set_cons_zero]
  refine reg_one 31 0 #[true, true, true, true, true, true, true, true, true, true, true, true, true, true, true, true, true, true, true, true, true, true, true, true, true, true, true, true, true, true, true, true] (by kernel_rfl) rfl (by rfl) (by kernel_rfl) (fun K hK => ?_)
  go_simp
  refine hK _ _ (Till.past trivial (by kernel_rfl)) ?_
  clear hK K
  try simp only [List.setIfInBounds_toArray, List.set_cons_succ, List.set_cons_zero]
  refine reg_done (by kernel_rfl) ?_ _
  exact HQ.out _ _ _ _ _ _ _ _ _ _ _ _ _ _ _ _ _ _ _ _ _ _ _ _ _ _ _ _ _ _ _ _ rfl
end Go.Proofs.Ytibolcekhdapaaa
