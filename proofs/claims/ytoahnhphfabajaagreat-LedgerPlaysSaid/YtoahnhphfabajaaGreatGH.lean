/- The reference's sum, piece by piece: a round, first half. The reference's sum, piece by piece: a round, second half. The reference's sum, piece by piece: the rounds. The reference's sum, piece by piece: what is added. The reference's sum, piece by piece: the bytes behind it. The reference's sum, piece by piece: what is added, the bytes behind it. The reference's sum, piece by piece: all pieces. The reference's sum is SHA-256. -/
import Derived.Test.YtoahnhphfabajaaGreatGG
namespace Go.Proofs.YtoahnhphfabajaaGreat
set_option maxRecDepth 10000
open Go.RowKit
set_option linter.unusedVariables false
set_option maxRecDepth 10000
set_option linter.unusedSimpArgs false
set_option linter.unnecessarySimpa false

set_option maxRecDepth 1000000 in
set_option maxHeartbeats 4000000 in
theorem ref_R31 {Q : Exit → Act → World → Prop} {u0 u1 u2 u4 u5 u6 u7 u9 u10 u11 u12 u13 u14 u18 u19 u20 u21 u22 u23 u24 u25 u26 u27 u28 u29 u30 u31 u32 u33 u34 u35 u36 u37 u38 u39 u40 u41 u42 u43 u44 u45 u46 u47 u48 u49 u50 u51 u52 u53 u54 u55 u56 u57 u58 u59 u60 u61 u62 u63 u64 u65 u66 u67 u68 u69 u70 u71 u72 u73 u74 u75 u76 u77 u78 u79 u80 u81 u82 u83 u84 u85 u86 u87 u88 u89 u90 u91 u92 u93 u94 u95 u96 u97 u98 u99 u100 u101 u102 u103 u104 u105 u106 u107 u108 u109 u110 u111 u112 u113 u114 u115 u116 u117 u118 u119 u120 u121 u122 u123 u124 u125 u126 u127 u128 u129 u130 u131 u132 u133 u134 u135 u136 u137 u138 u139 u140 u141 u142 u143 u144 u145 u146 u147 u148 u149 u150 u151 u152 u153 u154 u155 u156 u157 u158 u159 u160 u161 u162 u163 u164 u165 u166 u167 u168 u169 u170 u171 u172 u173 u174 u175 u176 u177 u178 u179 u180 u181 u182 u183 u184 u185 u186 u187 u188 u189 u190 u191 u192 u193 u194 u195 u196 u197 u198 u199 u200 u201 u202 u203 u204 u205 u206 u207 u208 u209 u210 u211 u212 u213 u214 u215 u216 u217 u218 u219 u220 u221 u222 u223 u224 u225 u226 u227 u228 u229 u230 u231 u232 u233 u234 u235 u236 u237 u238 u239 u240 u241 u242 u243 u244 u245 u246 u247 u248 u249 u250 u251 u252 u253 u254 u255 u256 u257 u258 u259 u260 u261 u262 u263 u264 u265 u266 u267 u268 u269 u270 u271 u272 u273 u274 u275 u276 u277 : Value} (p3 p8 p15 k : Nat) (t4 t5 t6 t7 kk wk : UInt32) (wr : World) (hk : k < 64)
    (c5 : wr.cell? ⟨p15, 5, none⟩ = some (.int .u32 (t5.toNat : Int))) (c6 : wr.cell? ⟨p15, 6, none⟩ = some (.int .u32 (t6.toNat : Int))) (c7 : wr.cell? ⟨p15, 7, none⟩ = some (.int .u32 (t7.toNat : Int)))
    (ck : wr.cell? ⟨p3, k, none⟩ = some (.int .u32 (kk.toNat : Int))) (cw : wr.cell? ⟨p8, k, none⟩ = some (.int .u32 (wk.toNat : Int)))
    (hP : ∀ c (a : Act) (w : World) o v, Q (.panic c) (a.put o v) w → Q (.panic c) a w)
    (hQ : ∀ (x148 x149 x150 x151 x152 x153 x154 x155 x156 x157 x158 x159 x160 x161 x162 x163 x164 x165 x166 x167 x168 x169 x170 x171 x172 x173 x174 x175 x176 x177 : Value)  (w1 : World), (w1 = wr.drew) → Q .normal ⟨(u0 :: u1 :: u2 :: (.pointer (some ⟨p3, 0, none⟩)) :: u4 :: u5 :: u6 :: u7 :: (.pointer (some ⟨p8, 0, none⟩)) :: u9 :: u10 :: u11 :: u12 :: u13 :: u14 :: (.pointer (some ⟨p15, 0, none⟩)) :: (.int .i64 (k : Int)) :: (.int .u32 (t4.toNat : Int)) :: (.int .u32 ((t7 + (ror t4 6 ^^^ ror t4 11 ^^^ ror t4 25) + ((t4 &&& t5) ^^^ (~~~t4 &&& t6)) + kk + wk).toNat : Int)) :: u19 :: u20 :: u21 :: u22 :: u23 :: u24 :: u25 :: u26 :: u27 :: u28 :: u29 :: u30 :: u31 :: u32 :: u33 :: u34 :: u35 :: u36 :: u37 :: u38 :: u39 :: u40 :: u41 :: u42 :: u43 :: u44 :: u45 :: u46 :: u47 :: u48 :: u49 :: u50 :: u51 :: u52 :: u53 :: u54 :: u55 :: u56 :: u57 :: u58 :: u59 :: u60 :: u61 :: u62 :: u63 :: u64 :: u65 :: u66 :: u67 :: u68 :: u69 :: u70 :: u71 :: u72 :: u73 :: u74 :: u75 :: u76 :: u77 :: u78 :: u79 :: u80 :: u81 :: u82 :: u83 :: u84 :: u85 :: u86 :: u87 :: u88 :: u89 :: u90 :: u91 :: u92 :: u93 :: u94 :: u95 :: u96 :: u97 :: u98 :: u99 :: u100 :: u101 :: u102 :: u103 :: u104 :: u105 :: u106 :: u107 :: u108 :: u109 :: u110 :: u111 :: u112 :: u113 :: u114 :: u115 :: u116 :: u117 :: u118 :: u119 :: u120 :: u121 :: u122 :: u123 :: u124 :: u125 :: u126 :: u127 :: u128 :: u129 :: u130 :: u131 :: u132 :: u133 :: u134 :: u135 :: u136 :: u137 :: u138 :: u139 :: u140 :: u141 :: u142 :: u143 :: u144 :: u145 :: u146 :: u147 :: x148 :: x149 :: x150 :: x151 :: x152 :: x153 :: x154 :: x155 :: x156 :: x157 :: x158 :: x159 :: x160 :: x161 :: x162 :: x163 :: x164 :: x165 :: x166 :: x167 :: x168 :: x169 :: x170 :: x171 :: x172 :: x173 :: x174 :: x175 :: x176 :: x177 :: u178 :: u179 :: u180 :: u181 :: u182 :: u183 :: u184 :: u185 :: u186 :: u187 :: u188 :: u189 :: u190 :: u191 :: u192 :: u193 :: u194 :: u195 :: u196 :: u197 :: u198 :: u199 :: u200 :: u201 :: u202 :: u203 :: u204 :: u205 :: u206 :: u207 :: u208 :: u209 :: u210 :: u211 :: u212 :: u213 :: u214 :: u215 :: u216 :: u217 :: u218 :: u219 :: u220 :: u221 :: u222 :: u223 :: u224 :: u225 :: u226 :: u227 :: u228 :: u229 :: u230 :: u231 :: u232 :: u233 :: u234 :: u235 :: u236 :: u237 :: u238 :: u239 :: u240 :: u241 :: u242 :: u243 :: u244 :: u245 :: u246 :: u247 :: u248 :: u249 :: u250 :: u251 :: u252 :: u253 :: u254 :: u255 :: u256 :: u257 :: u258 :: u259 :: u260 :: u261 :: u262 :: u263 :: u264 :: u265 :: u266 :: u267 :: u268 :: u269 :: u270 :: u271 :: u272 :: u273 :: u274 :: u275 :: u276 :: u277 :: []).toArray, []⟩ w1) :
    Code.wp Tryz.prog ((Tryz.f65.body.bind (codeRegion 31)).getD .skip) Q ⟨(u0 :: u1 :: u2 :: (.pointer (some ⟨p3, 0, none⟩)) :: u4 :: u5 :: u6 :: u7 :: (.pointer (some ⟨p8, 0, none⟩)) :: u9 :: u10 :: u11 :: u12 :: u13 :: u14 :: (.pointer (some ⟨p15, 0, none⟩)) :: (.int .i64 (k : Int)) :: (.int .u32 (t4.toNat : Int)) :: u18 :: u19 :: u20 :: u21 :: u22 :: u23 :: u24 :: u25 :: u26 :: u27 :: u28 :: u29 :: u30 :: u31 :: u32 :: u33 :: u34 :: u35 :: u36 :: u37 :: u38 :: u39 :: u40 :: u41 :: u42 :: u43 :: u44 :: u45 :: u46 :: u47 :: u48 :: u49 :: u50 :: u51 :: u52 :: u53 :: u54 :: u55 :: u56 :: u57 :: u58 :: u59 :: u60 :: u61 :: u62 :: u63 :: u64 :: u65 :: u66 :: u67 :: u68 :: u69 :: u70 :: u71 :: u72 :: u73 :: u74 :: u75 :: u76 :: u77 :: u78 :: u79 :: u80 :: u81 :: u82 :: u83 :: u84 :: u85 :: u86 :: u87 :: u88 :: u89 :: u90 :: u91 :: u92 :: u93 :: u94 :: u95 :: u96 :: u97 :: u98 :: u99 :: u100 :: u101 :: u102 :: u103 :: u104 :: u105 :: u106 :: u107 :: u108 :: u109 :: u110 :: u111 :: u112 :: u113 :: u114 :: u115 :: u116 :: u117 :: u118 :: u119 :: u120 :: u121 :: u122 :: u123 :: u124 :: u125 :: u126 :: u127 :: u128 :: u129 :: u130 :: u131 :: u132 :: u133 :: u134 :: u135 :: u136 :: u137 :: u138 :: u139 :: u140 :: u141 :: u142 :: u143 :: u144 :: u145 :: u146 :: u147 :: u148 :: u149 :: u150 :: u151 :: u152 :: u153 :: u154 :: u155 :: u156 :: u157 :: u158 :: u159 :: u160 :: u161 :: u162 :: u163 :: u164 :: u165 :: u166 :: u167 :: u168 :: u169 :: u170 :: u171 :: u172 :: u173 :: u174 :: u175 :: u176 :: u177 :: u178 :: u179 :: u180 :: u181 :: u182 :: u183 :: u184 :: u185 :: u186 :: u187 :: u188 :: u189 :: u190 :: u191 :: u192 :: u193 :: u194 :: u195 :: u196 :: u197 :: u198 :: u199 :: u200 :: u201 :: u202 :: u203 :: u204 :: u205 :: u206 :: u207 :: u208 :: u209 :: u210 :: u211 :: u212 :: u213 :: u214 :: u215 :: u216 :: u217 :: u218 :: u219 :: u220 :: u221 :: u222 :: u223 :: u224 :: u225 :: u226 :: u227 :: u228 :: u229 :: u230 :: u231 :: u232 :: u233 :: u234 :: u235 :: u236 :: u237 :: u238 :: u239 :: u240 :: u241 :: u242 :: u243 :: u244 :: u245 :: u246 :: u247 :: u248 :: u249 :: u250 :: u251 :: u252 :: u253 :: u254 :: u255 :: u256 :: u257 :: u258 :: u259 :: u260 :: u261 :: u262 :: u263 :: u264 :: u265 :: u266 :: u267 :: u268 :: u269 :: u270 :: u271 :: u272 :: u273 :: u274 :: u275 :: u276 :: u277 :: []).toArray, []⟩ wr := by
  have HQ := Lib.hid hQ
  have HPP := Lib.hid hP
  clear hQ hP
  conv => arg 2; whnf
  have qk : (k : Int) < 64 := by omega
  have hT : Turns [] wr wr.drew := (Turns.refl _ _).drew
  refine rk0 (fun W => Turns [] wr W) (fun _ => True) 31 31 ?_
  refine rkA 0 148 1 (v := ?_) ?_ (.mk' hT trivial) ?_ (hQ := fun _ _ _ h => HPP.out _ _ _ _ _ h)
  rotate_left
  · intro W hS; go_simp; all_goals with_reducible rfl
  try simp only [sI, sS, sZ]
  refine rkA 1 149 3 (v := ?_) ?_ (.mk' hT trivial) ?_ (hQ := fun _ _ _ h => HPP.out _ _ _ _ _ h)
  rotate_left
  · intro W hS; have c2 := cellL hS c7 (by simp); go_simp; all_goals with_reducible rfl
  try simp only [sI, sS, sZ]
  refine rkA 2 150 7 (v := ?_) ?_ (.mk' hT trivial) ?_ (hQ := fun _ _ _ h => HPP.out _ _ _ _ _ h)
  rotate_left
  · intro W hS; go_simp; all_goals with_reducible rfl
  try simp only [sI, sS, sZ]
  refine rkA 4 152 23 (v := ?_) ?_ (.mk' hT trivial) ?_ (hQ := fun _ _ _ h => HPP.out _ _ _ _ _ h)
  rotate_left
  · intro W hS; go_simp; all_goals with_reducible rfl
  try simp only [sI, sS, sZ]
  refine rkA 7 155 151 (v := ?_) ?_ (.mk' hT trivial) ?_ (hQ := fun _ _ _ h => HPP.out _ _ _ _ _ h)
  rotate_left
  · intro W hS; go_simp; all_goals with_reducible rfl
  try simp only [sI, sS, sZ]
  refine rkA 11 159 2199 (v := ?_) ?_ (.mk' hT trivial) ?_ (hQ := fun _ _ _ h => HPP.out _ _ _ _ _ h)
  rotate_left
  · intro W hS; go_simp; all_goals with_reducible rfl
  try simp only [sI, sS, sZ]
  refine rkA 12 160 6295 (v := ?_) ?_ (.mk' hT trivial) ?_ (hQ := fun _ _ _ h => HPP.out _ _ _ _ _ h)
  rotate_left
  · intro W hS; go_simp; all_goals with_reducible rfl
  try simp only [sI, sS, sZ]
  refine rkA 13 161 14487 (v := ?_) ?_ (.mk' hT trivial) ?_ (hQ := fun _ _ _ h => HPP.out _ _ _ _ _ h)
  rotate_left
  · intro W hS; have c2 := cellL hS c5 (by simp); go_simp; all_goals with_reducible rfl
  try simp only [sI, sS, sZ]
  refine rkA 14 162 30871 (v := ?_) ?_ (.mk' hT trivial) ?_ (hQ := fun _ _ _ h => HPP.out _ _ _ _ _ h)
  rotate_left
  · intro W hS; go_simp; all_goals with_reducible rfl
  try simp only [sI, sS, sZ]
  refine rkA 15 163 63639 (v := ?_) ?_ (.mk' hT trivial) ?_ (hQ := fun _ _ _ h => HPP.out _ _ _ _ _ h)
  rotate_left
  · intro W hS; go_simp; all_goals with_reducible rfl
  try simp only [sI, sS, sZ]
  refine rkA 16 164 129175 (v := ?_) ?_ (.mk' hT trivial) ?_ (hQ := fun _ _ _ h => HPP.out _ _ _ _ _ h)
  rotate_left
  · intro W hS; go_simp; all_goals with_reducible rfl
  try simp only [sI, sS, sZ]
  refine rkA 17 165 260247 (v := ?_) ?_ (.mk' hT trivial) ?_ (hQ := fun _ _ _ h => HPP.out _ _ _ _ _ h)
  rotate_left
  · intro W hS; go_simp; all_goals with_reducible rfl
  try simp only [sI, sS, sZ]
  refine rkA 18 166 522391 (v := ?_) ?_ (.mk' hT trivial) ?_ (hQ := fun _ _ _ h => HPP.out _ _ _ _ _ h)
  rotate_left
  · intro W hS; have c2 := cellL hS c6 (by simp); go_simp; all_goals with_reducible rfl
  try simp only [sI, sS, sZ]
  refine rkA 19 167 1046679 (v := ?_) ?_ (.mk' hT trivial) ?_ (hQ := fun _ _ _ h => HPP.out _ _ _ _ _ h)
  rotate_left
  · intro W hS; go_simp; all_goals with_reducible rfl
  try simp only [sI, sS, sZ]
  refine rkA 20 168 2095255 (v := ?_) ?_ (.mk' hT trivial) ?_ (hQ := fun _ _ _ h => HPP.out _ _ _ _ _ h)
  rotate_left
  · intro W hS; go_simp; all_goals with_reducible rfl
  try simp only [sI, sS, sZ]
  refine rkA 22 170 6289559 (v := ?_) ?_ (.mk' hT trivial) ?_ (hQ := fun _ _ _ h => HPP.out _ _ _ _ _ h)
  rotate_left
  · intro W hS; go_simp; all_goals with_reducible rfl
  try simp only [sI, sS, sZ]
  refine rkA 23 171 14678167 (v := ?_) ?_ (.mk' hT trivial) ?_ (hQ := fun _ _ _ h => HPP.out _ _ _ _ _ h)
  rotate_left
  · intro W hS; go_simp; all_goals with_reducible rfl
  try simp only [sI, sS, sZ]
  refine rkA 24 172 31455383 (v := ?_) ?_ (.mk' hT trivial) ?_ (hQ := fun _ _ _ h => HPP.out _ _ _ _ _ h)
  rotate_left
  · intro W hS; have c2 := cellL hS ck (by simp); go_simp; all_goals with_reducible rfl
  try simp only [sI, sS, sZ]
  refine rkA 26 174 98564247 (v := ?_) ?_ (.mk' hT trivial) ?_ (hQ := fun _ _ _ h => HPP.out _ _ _ _ _ h)
  rotate_left
  · intro W hS; go_simp; all_goals with_reducible rfl
  try simp only [sI, sS, sZ]
  refine rkA 27 175 232781975 (v := ?_) ?_ (.mk' hT trivial) ?_ (hQ := fun _ _ _ h => HPP.out _ _ _ _ _ h)
  rotate_left
  · intro W hS; go_simp; all_goals with_reducible rfl
  try simp only [sI, sS, sZ]
  refine rkA 28 176 501217431 (v := ?_) ?_ (.mk' hT trivial) ?_ (hQ := fun _ _ _ h => HPP.out _ _ _ _ _ h)
  rotate_left
  · intro W hS; have c2 := cellL hS cw (by simp); go_simp; all_goals with_reducible rfl
  try simp only [sI, sS, sZ]
  refine rk1 3 501217439 (fun K hK => ?_)
  go_simp
  refine (rot_6 t4 _).mono ?_
  rintro e ww ⟨rfl, rfl⟩
  refine hK _ _ (.mk' hT trivial) ?_
  clear hK K
  try simp only [sI, sS, sZ]
  refine rk1 5 501217471 (fun K hK => ?_)
  go_simp
  refine (rot_11 t4 _).mono ?_
  rintro e ww ⟨rfl, rfl⟩
  refine hK _ _ (.mk' hT trivial) ?_
  clear hK K
  try simp only [sI, sS, sZ]
  refine rkA 6 154 501217535 (v := ?_) ?_ (.mk' hT trivial) ?_ (hQ := fun _ _ _ h => HPP.out _ _ _ _ _ h)
  rotate_left
  · intro W hS; go_simp; all_goals with_reducible rfl
  try simp only [sI, sS, sZ]
  refine rk1 8 501217791 (fun K hK => ?_)
  go_simp
  refine (rot_25 t4 _).mono ?_
  rintro e ww ⟨rfl, rfl⟩
  refine hK _ _ (.mk' hT trivial) ?_
  clear hK K
  try simp only [sI, sS, sZ]
  refine rkA 9 157 501218303 (v := ?_) ?_ (.mk' hT trivial) ?_ (hQ := fun _ _ _ h => HPP.out _ _ _ _ _ h)
  rotate_left
  · intro W hS; go_simp; all_goals with_reducible rfl
  try simp only [sI, sS, sZ]
  refine rkA 10 158 501219327 (v := ?_) ?_ (.mk' hT trivial) ?_ (hQ := fun _ _ _ h => HPP.out _ _ _ _ _ h)
  rotate_left
  · intro W hS; go_simp; all_goals with_reducible rfl
  try simp only [sI, sS, sZ]
  refine rkA 21 169 503316479 (v := ?_) ?_ (.mk' hT trivial) ?_ (hQ := fun _ _ _ h => HPP.out _ _ _ _ _ h)
  rotate_left
  · intro W hS; go_simp; all_goals with_reducible rfl
  try simp only [sI, sS, sZ]
  refine rkA 25 173 536870911 (v := ?_) ?_ (.mk' hT trivial) ?_ (hQ := fun _ _ _ h => HPP.out _ _ _ _ _ h)
  rotate_left
  · intro W hS; go_simp; all_goals with_reducible rfl
  try simp only [sI, sS, sZ]
  refine rkA 29 177 1073741823 (v := ?_) ?_ (.mk' hT trivial) ?_ (hQ := fun _ _ _ h => HPP.out _ _ _ _ _ h)
  rotate_left
  · intro W hS; go_simp; all_goals with_reducible rfl
  try simp only [sI, sS, sZ]
  refine rkA 30 18 2147483647 (v := ?_) ?_ (.mk' hT trivial) ?_ (hQ := fun _ _ _ h => HPP.out _ _ _ _ _ h)
  rotate_left
  · intro W hS; go_simp; all_goals with_reducible rfl
  try simp only [sI, sS, sZ]
  refine rkZ ?_
  simp only [bitsXor, bitsAnd, bitsNot', wrapAdd]
  exact HQ.out _ _ _ _ _ _ _ _ _ _ _ _ _ _ _ _ _ _ _ _ _ _ _ _ _ _ _ _ _ _ _ rfl
end Go.Proofs.YtoahnhphfabajaaGreat
namespace Go.Proofs.YtoahnhphfabajaaGreat
set_option maxRecDepth 10000
open Go.RowKit
set_option linter.unusedVariables false
set_option linter.unusedSimpArgs false
set_option linter.unnecessarySimpa false

set_option maxRecDepth 1000000 in
set_option maxHeartbeats 4000000 in
theorem ref_R32 {Q : Exit → Act → World → Prop} {u0 u1 u2 u3 u4 u5 u6 u7 u8 u9 u10 u11 u12 u13 u14 u16 u17 u18 u19 u20 u21 u22 u23 u24 u25 u26 u27 u28 u29 u30 u31 u32 u33 u34 u35 u36 u37 u38 u39 u40 u41 u42 u43 u44 u45 u46 u47 u48 u49 u50 u51 u52 u53 u54 u55 u56 u57 u58 u59 u60 u61 u62 u63 u64 u65 u66 u67 u68 u69 u70 u71 u72 u73 u74 u75 u76 u77 u78 u79 u80 u81 u82 u83 u84 u85 u86 u87 u88 u89 u90 u91 u92 u93 u94 u95 u96 u97 u98 u99 u100 u101 u102 u103 u104 u105 u106 u107 u108 u109 u110 u111 u112 u113 u114 u115 u116 u117 u118 u119 u120 u121 u122 u123 u124 u125 u126 u127 u128 u129 u130 u131 u132 u133 u134 u135 u136 u137 u138 u139 u140 u141 u142 u143 u144 u145 u146 u147 u148 u149 u150 u151 u152 u153 u154 u155 u156 u157 u158 u159 u160 u161 u162 u163 u164 u165 u166 u167 u168 u169 u170 u171 u172 u173 u174 u175 u176 u177 u178 u179 u180 u181 u182 u183 u184 u185 u186 u187 u188 u189 u190 u191 u192 u193 u194 u195 u196 u197 u198 u199 u200 u201 u202 u203 u204 u205 u206 u207 u208 u209 u210 u211 u212 u213 u214 u215 u216 u217 u218 u219 u220 u221 u222 u223 u224 u225 u226 u227 u228 u229 u230 u231 u232 u233 u234 u235 u236 u237 u238 u239 u240 u241 u242 u243 u244 u245 u246 u247 u248 u249 u250 u251 u252 u253 u254 u255 u256 u257 u258 u259 u260 u261 u262 u263 u264 u265 u266 u267 u268 u269 u270 u271 u272 u273 u274 u275 u276 u277 : Value} (p15 : Nat) (t0 t1 t2 : UInt32) (wr : World) 
    (c0 : wr.cell? ⟨p15, 0, none⟩ = some (.int .u32 (t0.toNat : Int))) (c1 : wr.cell? ⟨p15, 1, none⟩ = some (.int .u32 (t1.toNat : Int))) (c2 : wr.cell? ⟨p15, 2, none⟩ = some (.int .u32 (t2.toNat : Int)))
    (hP : ∀ c (a : Act) (w : World) o v, Q (.panic c) (a.put o v) w → Q (.panic c) a w)
    (hQ : ∀ (x178 x179 x180 x181 x182 x183 x184 x185 x186 x187 x188 x189 x190 x191 x192 x193 x194 x195 x196 x197 x198 x199 x200 x201 x202 x203 x204 x205 x206 : Value)  (w1 : World), (w1 = wr.drew) → Q .normal ⟨(u0 :: u1 :: u2 :: u3 :: u4 :: u5 :: u6 :: u7 :: u8 :: u9 :: u10 :: u11 :: u12 :: u13 :: u14 :: (.pointer (some ⟨p15, 0, none⟩)) :: u16 :: u17 :: u18 :: (.int .u32 (((ror t0 2 ^^^ ror t0 13 ^^^ ror t0 22) + ((t0 &&& t1) ^^^ (t0 &&& t2) ^^^ (t1 &&& t2))).toNat : Int)) :: u20 :: u21 :: u22 :: u23 :: u24 :: u25 :: u26 :: u27 :: u28 :: u29 :: u30 :: u31 :: u32 :: u33 :: u34 :: u35 :: u36 :: u37 :: u38 :: u39 :: u40 :: u41 :: u42 :: u43 :: u44 :: u45 :: u46 :: u47 :: u48 :: u49 :: u50 :: u51 :: u52 :: u53 :: u54 :: u55 :: u56 :: u57 :: u58 :: u59 :: u60 :: u61 :: u62 :: u63 :: u64 :: u65 :: u66 :: u67 :: u68 :: u69 :: u70 :: u71 :: u72 :: u73 :: u74 :: u75 :: u76 :: u77 :: u78 :: u79 :: u80 :: u81 :: u82 :: u83 :: u84 :: u85 :: u86 :: u87 :: u88 :: u89 :: u90 :: u91 :: u92 :: u93 :: u94 :: u95 :: u96 :: u97 :: u98 :: u99 :: u100 :: u101 :: u102 :: u103 :: u104 :: u105 :: u106 :: u107 :: u108 :: u109 :: u110 :: u111 :: u112 :: u113 :: u114 :: u115 :: u116 :: u117 :: u118 :: u119 :: u120 :: u121 :: u122 :: u123 :: u124 :: u125 :: u126 :: u127 :: u128 :: u129 :: u130 :: u131 :: u132 :: u133 :: u134 :: u135 :: u136 :: u137 :: u138 :: u139 :: u140 :: u141 :: u142 :: u143 :: u144 :: u145 :: u146 :: u147 :: u148 :: u149 :: u150 :: u151 :: u152 :: u153 :: u154 :: u155 :: u156 :: u157 :: u158 :: u159 :: u160 :: u161 :: u162 :: u163 :: u164 :: u165 :: u166 :: u167 :: u168 :: u169 :: u170 :: u171 :: u172 :: u173 :: u174 :: u175 :: u176 :: u177 :: x178 :: x179 :: x180 :: x181 :: x182 :: x183 :: x184 :: x185 :: x186 :: x187 :: x188 :: x189 :: x190 :: x191 :: x192 :: x193 :: x194 :: x195 :: x196 :: x197 :: x198 :: x199 :: x200 :: x201 :: x202 :: x203 :: x204 :: x205 :: x206 :: u207 :: u208 :: u209 :: u210 :: u211 :: u212 :: u213 :: u214 :: u215 :: u216 :: u217 :: u218 :: u219 :: u220 :: u221 :: u222 :: u223 :: u224 :: u225 :: u226 :: u227 :: u228 :: u229 :: u230 :: u231 :: u232 :: u233 :: u234 :: u235 :: u236 :: u237 :: u238 :: u239 :: u240 :: u241 :: u242 :: u243 :: u244 :: u245 :: u246 :: u247 :: u248 :: u249 :: u250 :: u251 :: u252 :: u253 :: u254 :: u255 :: u256 :: u257 :: u258 :: u259 :: u260 :: u261 :: u262 :: u263 :: u264 :: u265 :: u266 :: u267 :: u268 :: u269 :: u270 :: u271 :: u272 :: u273 :: u274 :: u275 :: u276 :: u277 :: []).toArray, []⟩ w1) :
    Code.wp Tryz.prog ((Tryz.f65.body.bind (codeRegion 32)).getD .skip) Q ⟨(u0 :: u1 :: u2 :: u3 :: u4 :: u5 :: u6 :: u7 :: u8 :: u9 :: u10 :: u11 :: u12 :: u13 :: u14 :: (.pointer (some ⟨p15, 0, none⟩)) :: u16 :: u17 :: u18 :: u19 :: u20 :: u21 :: u22 :: u23 :: u24 :: u25 :: u26 :: u27 :: u28 :: u29 :: u30 :: u31 :: u32 :: u33 :: u34 :: u35 :: u36 :: u37 :: u38 :: u39 :: u40 :: u41 :: u42 :: u43 :: u44 :: u45 :: u46 :: u47 :: u48 :: u49 :: u50 :: u51 :: u52 :: u53 :: u54 :: u55 :: u56 :: u57 :: u58 :: u59 :: u60 :: u61 :: u62 :: u63 :: u64 :: u65 :: u66 :: u67 :: u68 :: u69 :: u70 :: u71 :: u72 :: u73 :: u74 :: u75 :: u76 :: u77 :: u78 :: u79 :: u80 :: u81 :: u82 :: u83 :: u84 :: u85 :: u86 :: u87 :: u88 :: u89 :: u90 :: u91 :: u92 :: u93 :: u94 :: u95 :: u96 :: u97 :: u98 :: u99 :: u100 :: u101 :: u102 :: u103 :: u104 :: u105 :: u106 :: u107 :: u108 :: u109 :: u110 :: u111 :: u112 :: u113 :: u114 :: u115 :: u116 :: u117 :: u118 :: u119 :: u120 :: u121 :: u122 :: u123 :: u124 :: u125 :: u126 :: u127 :: u128 :: u129 :: u130 :: u131 :: u132 :: u133 :: u134 :: u135 :: u136 :: u137 :: u138 :: u139 :: u140 :: u141 :: u142 :: u143 :: u144 :: u145 :: u146 :: u147 :: u148 :: u149 :: u150 :: u151 :: u152 :: u153 :: u154 :: u155 :: u156 :: u157 :: u158 :: u159 :: u160 :: u161 :: u162 :: u163 :: u164 :: u165 :: u166 :: u167 :: u168 :: u169 :: u170 :: u171 :: u172 :: u173 :: u174 :: u175 :: u176 :: u177 :: u178 :: u179 :: u180 :: u181 :: u182 :: u183 :: u184 :: u185 :: u186 :: u187 :: u188 :: u189 :: u190 :: u191 :: u192 :: u193 :: u194 :: u195 :: u196 :: u197 :: u198 :: u199 :: u200 :: u201 :: u202 :: u203 :: u204 :: u205 :: u206 :: u207 :: u208 :: u209 :: u210 :: u211 :: u212 :: u213 :: u214 :: u215 :: u216 :: u217 :: u218 :: u219 :: u220 :: u221 :: u222 :: u223 :: u224 :: u225 :: u226 :: u227 :: u228 :: u229 :: u230 :: u231 :: u232 :: u233 :: u234 :: u235 :: u236 :: u237 :: u238 :: u239 :: u240 :: u241 :: u242 :: u243 :: u244 :: u245 :: u246 :: u247 :: u248 :: u249 :: u250 :: u251 :: u252 :: u253 :: u254 :: u255 :: u256 :: u257 :: u258 :: u259 :: u260 :: u261 :: u262 :: u263 :: u264 :: u265 :: u266 :: u267 :: u268 :: u269 :: u270 :: u271 :: u272 :: u273 :: u274 :: u275 :: u276 :: u277 :: []).toArray, []⟩ wr := by
  have HQ := Lib.hid hQ
  have HPP := Lib.hid hP
  clear hQ hP
  conv => arg 2; whnf
  have hT : Turns [] wr wr.drew := (Turns.refl _ _).drew
  refine rk0 (fun W => Turns [] wr W) (fun _ => True) 30 30 ?_
  refine rkA 0 178 1 (v := ?_) ?_ (.mk' hT trivial) ?_ (hQ := fun _ _ _ h => HPP.out _ _ _ _ _ h)
  rotate_left
  · intro W hS; go_simp; all_goals with_reducible rfl
  try simp only [sI, sS, sZ]
  refine rkA 1 179 3 (v := ?_) ?_ (.mk' hT trivial) ?_ (hQ := fun _ _ _ h => HPP.out _ _ _ _ _ h)
  rotate_left
  · intro W hS; have c2 := cellL hS c0 (by simp); go_simp; all_goals with_reducible rfl
  try simp only [sI, sS, sZ]
  refine rkA 3 181 11 (v := ?_) ?_ (.mk' hT trivial) ?_ (hQ := fun _ _ _ h => HPP.out _ _ _ _ _ h)
  rotate_left
  · intro W hS; go_simp; all_goals with_reducible rfl
  try simp only [sI, sS, sZ]
  refine rkA 4 182 27 (v := ?_) ?_ (.mk' hT trivial) ?_ (hQ := fun _ _ _ h => HPP.out _ _ _ _ _ h)
  rotate_left
  · intro W hS; have c2 := cellL hS c0 (by simp); go_simp; all_goals with_reducible rfl
  try simp only [sI, sS, sZ]
  refine rkA 7 185 155 (v := ?_) ?_ (.mk' hT trivial) ?_ (hQ := fun _ _ _ h => HPP.out _ _ _ _ _ h)
  rotate_left
  · intro W hS; go_simp; all_goals with_reducible rfl
  try simp only [sI, sS, sZ]
  refine rkA 8 186 411 (v := ?_) ?_ (.mk' hT trivial) ?_ (hQ := fun _ _ _ h => HPP.out _ _ _ _ _ h)
  rotate_left
  · intro W hS; have c2 := cellL hS c0 (by simp); go_simp; all_goals with_reducible rfl
  try simp only [sI, sS, sZ]
  refine rkA 11 189 2459 (v := ?_) ?_ (.mk' hT trivial) ?_ (hQ := fun _ _ _ h => HPP.out _ _ _ _ _ h)
  rotate_left
  · intro W hS; go_simp; all_goals with_reducible rfl
  try simp only [sI, sS, sZ]
  refine rkA 12 190 6555 (v := ?_) ?_ (.mk' hT trivial) ?_ (hQ := fun _ _ _ h => HPP.out _ _ _ _ _ h)
  rotate_left
  · intro W hS; have c2 := cellL hS c0 (by simp); go_simp; all_goals with_reducible rfl
  try simp only [sI, sS, sZ]
  refine rkA 13 191 14747 (v := ?_) ?_ (.mk' hT trivial) ?_ (hQ := fun _ _ _ h => HPP.out _ _ _ _ _ h)
  rotate_left
  · intro W hS; go_simp; all_goals with_reducible rfl
  try simp only [sI, sS, sZ]
  refine rkA 14 192 31131 (v := ?_) ?_ (.mk' hT trivial) ?_ (hQ := fun _ _ _ h => HPP.out _ _ _ _ _ h)
  rotate_left
  · intro W hS; have c2 := cellL hS c1 (by simp); go_simp; all_goals with_reducible rfl
  try simp only [sI, sS, sZ]
  refine rkA 15 193 63899 (v := ?_) ?_ (.mk' hT trivial) ?_ (hQ := fun _ _ _ h => HPP.out _ _ _ _ _ h)
  rotate_left
  · intro W hS; go_simp; all_goals with_reducible rfl
  try simp only [sI, sS, sZ]
  refine rkA 16 194 129435 (v := ?_) ?_ (.mk' hT trivial) ?_ (hQ := fun _ _ _ h => HPP.out _ _ _ _ _ h)
  rotate_left
  · intro W hS; go_simp; all_goals with_reducible rfl
  try simp only [sI, sS, sZ]
  refine rkA 17 195 260507 (v := ?_) ?_ (.mk' hT trivial) ?_ (hQ := fun _ _ _ h => HPP.out _ _ _ _ _ h)
  rotate_left
  · intro W hS; have c2 := cellL hS c0 (by simp); go_simp; all_goals with_reducible rfl
  try simp only [sI, sS, sZ]
  refine rkA 18 196 522651 (v := ?_) ?_ (.mk' hT trivial) ?_ (hQ := fun _ _ _ h => HPP.out _ _ _ _ _ h)
  rotate_left
  · intro W hS; go_simp; all_goals with_reducible rfl
  try simp only [sI, sS, sZ]
  refine rkA 19 197 1046939 (v := ?_) ?_ (.mk' hT trivial) ?_ (hQ := fun _ _ _ h => HPP.out _ _ _ _ _ h)
  rotate_left
  · intro W hS; have c2 := cellL hS c2 (by simp); go_simp; all_goals with_reducible rfl
  try simp only [sI, sS, sZ]
  refine rkA 20 198 2095515 (v := ?_) ?_ (.mk' hT trivial) ?_ (hQ := fun _ _ _ h => HPP.out _ _ _ _ _ h)
  rotate_left
  · intro W hS; go_simp; all_goals with_reducible rfl
  try simp only [sI, sS, sZ]
  refine rkA 21 199 4192667 (v := ?_) ?_ (.mk' hT trivial) ?_ (hQ := fun _ _ _ h => HPP.out _ _ _ _ _ h)
  rotate_left
  · intro W hS; go_simp; all_goals with_reducible rfl
  try simp only [sI, sS, sZ]
  refine rkA 22 200 8386971 (v := ?_) ?_ (.mk' hT trivial) ?_ (hQ := fun _ _ _ h => HPP.out _ _ _ _ _ h)
  rotate_left
  · intro W hS; go_simp; all_goals with_reducible rfl
  try simp only [sI, sS, sZ]
  refine rkA 23 201 16775579 (v := ?_) ?_ (.mk' hT trivial) ?_ (hQ := fun _ _ _ h => HPP.out _ _ _ _ _ h)
  rotate_left
  · intro W hS; have c2 := cellL hS c1 (by simp); go_simp; all_goals with_reducible rfl
  try simp only [sI, sS, sZ]
  refine rkA 24 202 33552795 (v := ?_) ?_ (.mk' hT trivial) ?_ (hQ := fun _ _ _ h => HPP.out _ _ _ _ _ h)
  rotate_left
  · intro W hS; go_simp; all_goals with_reducible rfl
  try simp only [sI, sS, sZ]
  refine rkA 25 203 67107227 (v := ?_) ?_ (.mk' hT trivial) ?_ (hQ := fun _ _ _ h => HPP.out _ _ _ _ _ h)
  rotate_left
  · intro W hS; have c2 := cellL hS c2 (by simp); go_simp; all_goals with_reducible rfl
  try simp only [sI, sS, sZ]
  refine rkA 26 204 134216091 (v := ?_) ?_ (.mk' hT trivial) ?_ (hQ := fun _ _ _ h => HPP.out _ _ _ _ _ h)
  rotate_left
  · intro W hS; go_simp; all_goals with_reducible rfl
  try simp only [sI, sS, sZ]
  refine rkA 27 205 268433819 (v := ?_) ?_ (.mk' hT trivial) ?_ (hQ := fun _ _ _ h => HPP.out _ _ _ _ _ h)
  rotate_left
  · intro W hS; go_simp; all_goals with_reducible rfl
  try simp only [sI, sS, sZ]
  refine rk1 2 268433823 (fun K hK => ?_)
  go_simp
  refine (rot_2 t0 _).mono ?_
  rintro e ww ⟨rfl, rfl⟩
  refine hK _ _ (.mk' hT trivial) ?_
  clear hK K
  try simp only [sI, sS, sZ]
  refine rk1 5 268433855 (fun K hK => ?_)
  go_simp
  refine (rot_13 t0 _).mono ?_
  rintro e ww ⟨rfl, rfl⟩
  refine hK _ _ (.mk' hT trivial) ?_
  clear hK K
  try simp only [sI, sS, sZ]
  refine rkA 6 184 268433919 (v := ?_) ?_ (.mk' hT trivial) ?_ (hQ := fun _ _ _ h => HPP.out _ _ _ _ _ h)
  rotate_left
  · intro W hS; go_simp; all_goals with_reducible rfl
  try simp only [sI, sS, sZ]
  refine rk1 9 268434431 (fun K hK => ?_)
  go_simp
  refine (rot_22 t0 _).mono ?_
  rintro e ww ⟨rfl, rfl⟩
  refine hK _ _ (.mk' hT trivial) ?_
  clear hK K
  try simp only [sI, sS, sZ]
  refine rkA 10 188 268435455 (v := ?_) ?_ (.mk' hT trivial) ?_ (hQ := fun _ _ _ h => HPP.out _ _ _ _ _ h)
  rotate_left
  · intro W hS; go_simp; all_goals with_reducible rfl
  try simp only [sI, sS, sZ]
  refine rkA 28 206 536870911 (v := ?_) ?_ (.mk' hT trivial) ?_ (hQ := fun _ _ _ h => HPP.out _ _ _ _ _ h)
  rotate_left
  · intro W hS; go_simp; all_goals with_reducible rfl
  try simp only [sI, sS, sZ]
  refine rkA 29 19 1073741823 (v := ?_) ?_ (.mk' hT trivial) ?_ (hQ := fun _ _ _ h => HPP.out _ _ _ _ _ h)
  rotate_left
  · intro W hS; go_simp; all_goals with_reducible rfl
  try simp only [sI, sS, sZ]
  refine rkZ ?_
  simp only [bitsXor, bitsAnd, bitsNot', wrapAdd]
  exact HQ.out _ _ _ _ _ _ _ _ _ _ _ _ _ _ _ _ _ _ _ _ _ _ _ _ _ _ _ _ _ _ rfl
end Go.Proofs.YtoahnhphfabajaaGreat
namespace Go.Proofs.YtoahnhphfabajaaGreat
set_option maxRecDepth 10000
open Go.RowKit
set_option linter.unusedVariables false
set_option linter.unusedSimpArgs false
set_option linter.unnecessarySimpa false

theorem size_a8 : (Tryz.prog.info? 167).map (·.size) = some 8 := by kernel_rfl
set_option maxRecDepth 1000000 in
set_option maxHeartbeats 4000000 in
theorem ref_L10 {Q : Exit → Act → World → Prop} {u0 u1 u2 u4 u5 u6 u7 u9 u10 u11 u12 u13 u14 u17 u18 u19 u20 u21 u22 u23 u24 u25 u26 u27 u28 u29 u30 u31 u32 u33 u34 u35 u36 u37 u38 u39 u40 u41 u42 u43 u44 u45 u46 u47 u48 u49 u50 u51 u52 u53 u54 u55 u56 u57 u58 u59 u60 u61 u62 u63 u64 u65 u66 u67 u68 u69 u70 u71 u72 u73 u74 u75 u76 u77 u78 u79 u80 u81 u82 u83 u84 u85 u86 u87 u88 u89 u90 u91 u92 u93 u94 u95 u96 u97 u98 u99 u100 u101 u102 u103 u104 u105 u106 u107 u108 u109 u110 u111 u112 u113 u114 u115 u116 u117 u118 u119 u120 u121 u122 u123 u124 u125 u126 u127 u128 u129 u130 u131 u132 u133 u134 u135 u136 u137 u138 u139 u140 u141 u142 u143 u144 u145 u146 u147 u148 u149 u150 u151 u152 u153 u154 u155 u156 u157 u158 u159 u160 u161 u162 u163 u164 u165 u166 u167 u168 u169 u170 u171 u172 u173 u174 u175 u176 u177 u178 u179 u180 u181 u182 u183 u184 u185 u186 u187 u188 u189 u190 u191 u192 u193 u194 u195 u196 u197 u198 u199 u200 u201 u202 u203 u204 u205 u206 u207 u208 u209 u210 u211 u212 u213 u214 u215 u216 u217 u218 u219 u220 u221 u222 u223 u224 u225 u226 u227 u228 u229 u230 u231 u232 u233 u234 u235 u236 u237 u238 u239 u240 u241 u242 u243 u244 u245 u246 u247 u248 u249 u250 u251 u252 u253 u254 u255 u256 u257 u258 u259 u260 u261 u262 u263 u264 u265 u266 u267 u268 u269 u270 u271 u272 u273 u274 u275 u276 u277 : Value} (p3 p8 p15 : Nat) (W s : List UInt32) (w : World) (hs : s.length = 8) (hW : W.length = 64) (hn3 : p3 ≠ p15) (hn8 : p8 ≠ p15) (hb3 : Blk w p3 (u32s shaK) 165) (hb8 : Blk w p8 (u32s W) 165) (hb15 : Blk w p15 (u32s s) 167)
    (hP : ∀ c (a : Act) (w : World) o v, Q (.panic c) (a.put o v) w → Q (.panic c) a w)
    (hQ : ∀ (x16 x17 x18 x19 x142 x143 x144 x145 x146 x147 x148 x149 x150 x151 x152 x153 x154 x155 x156 x157 x158 x159 x160 x161 x162 x163 x164 x165 x166 x167 x168 x169 x170 x171 x172 x173 x174 x175 x176 x177 x178 x179 x180 x181 x182 x183 x184 x185 x186 x187 x188 x189 x190 x191 x192 x193 x194 x195 x196 x197 x198 x199 x200 x201 x202 x203 x204 x205 x206 x207 x208 x209 x210 x211 x212 x213 x214 x215 x216 x217 x218 x219 x220 x221 x222 x223 x224 x225 x226 : Value)  (w1 : World), (Blk w1 p15 (u32s (rounds W 64 s)) 167 ∧ Turns [p15] w w1) → Q .normal ⟨(u0 :: u1 :: u2 :: (.pointer (some ⟨p3, 0, none⟩)) :: u4 :: u5 :: u6 :: u7 :: (.pointer (some ⟨p8, 0, none⟩)) :: u9 :: u10 :: u11 :: u12 :: u13 :: u14 :: (.pointer (some ⟨p15, 0, none⟩)) :: x16 :: x17 :: x18 :: x19 :: u20 :: u21 :: u22 :: u23 :: u24 :: u25 :: u26 :: u27 :: u28 :: u29 :: u30 :: u31 :: u32 :: u33 :: u34 :: u35 :: u36 :: u37 :: u38 :: u39 :: u40 :: u41 :: u42 :: u43 :: u44 :: u45 :: u46 :: u47 :: u48 :: u49 :: u50 :: u51 :: u52 :: u53 :: u54 :: u55 :: u56 :: u57 :: u58 :: u59 :: u60 :: u61 :: u62 :: u63 :: u64 :: u65 :: u66 :: u67 :: u68 :: u69 :: u70 :: u71 :: u72 :: u73 :: u74 :: u75 :: u76 :: u77 :: u78 :: u79 :: u80 :: u81 :: u82 :: u83 :: u84 :: u85 :: u86 :: u87 :: u88 :: u89 :: u90 :: u91 :: u92 :: u93 :: u94 :: u95 :: u96 :: u97 :: u98 :: u99 :: u100 :: u101 :: u102 :: u103 :: u104 :: u105 :: u106 :: u107 :: u108 :: u109 :: u110 :: u111 :: u112 :: u113 :: u114 :: u115 :: u116 :: u117 :: u118 :: u119 :: u120 :: u121 :: u122 :: u123 :: u124 :: u125 :: u126 :: u127 :: u128 :: u129 :: u130 :: u131 :: u132 :: u133 :: u134 :: u135 :: u136 :: u137 :: u138 :: u139 :: u140 :: u141 :: x142 :: x143 :: x144 :: x145 :: x146 :: x147 :: x148 :: x149 :: x150 :: x151 :: x152 :: x153 :: x154 :: x155 :: x156 :: x157 :: x158 :: x159 :: x160 :: x161 :: x162 :: x163 :: x164 :: x165 :: x166 :: x167 :: x168 :: x169 :: x170 :: x171 :: x172 :: x173 :: x174 :: x175 :: x176 :: x177 :: x178 :: x179 :: x180 :: x181 :: x182 :: x183 :: x184 :: x185 :: x186 :: x187 :: x188 :: x189 :: x190 :: x191 :: x192 :: x193 :: x194 :: x195 :: x196 :: x197 :: x198 :: x199 :: x200 :: x201 :: x202 :: x203 :: x204 :: x205 :: x206 :: x207 :: x208 :: x209 :: x210 :: x211 :: x212 :: x213 :: x214 :: x215 :: x216 :: x217 :: x218 :: x219 :: x220 :: x221 :: x222 :: x223 :: x224 :: x225 :: x226 :: u227 :: u228 :: u229 :: u230 :: u231 :: u232 :: u233 :: u234 :: u235 :: u236 :: u237 :: u238 :: u239 :: u240 :: u241 :: u242 :: u243 :: u244 :: u245 :: u246 :: u247 :: u248 :: u249 :: u250 :: u251 :: u252 :: u253 :: u254 :: u255 :: u256 :: u257 :: u258 :: u259 :: u260 :: u261 :: u262 :: u263 :: u264 :: u265 :: u266 :: u267 :: u268 :: u269 :: u270 :: u271 :: u272 :: u273 :: u274 :: u275 :: u276 :: u277 :: []).toArray, []⟩ w1) :
    Code.wp Tryz.prog ((Tryz.f65.body.bind (codeBlock 10)).getD .skip) Q ⟨(u0 :: u1 :: u2 :: (.pointer (some ⟨p3, 0, none⟩)) :: u4 :: u5 :: u6 :: u7 :: (.pointer (some ⟨p8, 0, none⟩)) :: u9 :: u10 :: u11 :: u12 :: u13 :: u14 :: (.pointer (some ⟨p15, 0, none⟩)) :: (.int .i64 0) :: u17 :: u18 :: u19 :: u20 :: u21 :: u22 :: u23 :: u24 :: u25 :: u26 :: u27 :: u28 :: u29 :: u30 :: u31 :: u32 :: u33 :: u34 :: u35 :: u36 :: u37 :: u38 :: u39 :: u40 :: u41 :: u42 :: u43 :: u44 :: u45 :: u46 :: u47 :: u48 :: u49 :: u50 :: u51 :: u52 :: u53 :: u54 :: u55 :: u56 :: u57 :: u58 :: u59 :: u60 :: u61 :: u62 :: u63 :: u64 :: u65 :: u66 :: u67 :: u68 :: u69 :: u70 :: u71 :: u72 :: u73 :: u74 :: u75 :: u76 :: u77 :: u78 :: u79 :: u80 :: u81 :: u82 :: u83 :: u84 :: u85 :: u86 :: u87 :: u88 :: u89 :: u90 :: u91 :: u92 :: u93 :: u94 :: u95 :: u96 :: u97 :: u98 :: u99 :: u100 :: u101 :: u102 :: u103 :: u104 :: u105 :: u106 :: u107 :: u108 :: u109 :: u110 :: u111 :: u112 :: u113 :: u114 :: u115 :: u116 :: u117 :: u118 :: u119 :: u120 :: u121 :: u122 :: u123 :: u124 :: u125 :: u126 :: u127 :: u128 :: u129 :: u130 :: u131 :: u132 :: u133 :: u134 :: u135 :: u136 :: u137 :: u138 :: u139 :: u140 :: u141 :: u142 :: u143 :: u144 :: u145 :: u146 :: u147 :: u148 :: u149 :: u150 :: u151 :: u152 :: u153 :: u154 :: u155 :: u156 :: u157 :: u158 :: u159 :: u160 :: u161 :: u162 :: u163 :: u164 :: u165 :: u166 :: u167 :: u168 :: u169 :: u170 :: u171 :: u172 :: u173 :: u174 :: u175 :: u176 :: u177 :: u178 :: u179 :: u180 :: u181 :: u182 :: u183 :: u184 :: u185 :: u186 :: u187 :: u188 :: u189 :: u190 :: u191 :: u192 :: u193 :: u194 :: u195 :: u196 :: u197 :: u198 :: u199 :: u200 :: u201 :: u202 :: u203 :: u204 :: u205 :: u206 :: u207 :: u208 :: u209 :: u210 :: u211 :: u212 :: u213 :: u214 :: u215 :: u216 :: u217 :: u218 :: u219 :: u220 :: u221 :: u222 :: u223 :: u224 :: u225 :: u226 :: u227 :: u228 :: u229 :: u230 :: u231 :: u232 :: u233 :: u234 :: u235 :: u236 :: u237 :: u238 :: u239 :: u240 :: u241 :: u242 :: u243 :: u244 :: u245 :: u246 :: u247 :: u248 :: u249 :: u250 :: u251 :: u252 :: u253 :: u254 :: u255 :: u256 :: u257 :: u258 :: u259 :: u260 :: u261 :: u262 :: u263 :: u264 :: u265 :: u266 :: u267 :: u268 :: u269 :: u270 :: u271 :: u272 :: u273 :: u274 :: u275 :: u276 :: u277 :: []).toArray, []⟩ w := by
  have HQ := Lib.hid hQ
  have HPP := Lib.hid hP
  clear hQ hP
  conv => arg 2; whnf
  have HL := Lib.hid (And.intro hs (And.intro hW (And.intro hn3 hn8)))
  have H0 := Lib.hid (And.intro hb3 (And.intro hb8 hb15))
  clear hb3 hb8 hb15 hs hW hn3 hn8
  go_wp2_with fail
  go_loopw [16] (fun i wr => ∃ k : Nat, k ≤ 64 ∧ i = .int .i64 k ∧ Blk wr p15 (u32s (rounds W k s)) 167 ∧ Turns [p15] w wr) (fun i _ => 64 - (intOf i).toNat)
  case atStart => exact ⟨0, by omega, rfl, H0.out.2.2, Turns.refl _ _⟩
  case round =>
    obtain ⟨k, hk, rfl, v7, td⟩ := hrel
    by_cases hlt : k < 64
    · have hl8 := rounds_len W s HL.out.1 k
      have hrd : rounds W (k + 1) s = round1 (rounds W k s) (shaK.getD k 0) (W.getD k 0) := rfl
      generalize rounds W k s = T at v7 hl8 hrd
      have b3 := H0.out.1.turns td (by simpa using HL.out.2.2.1)
      have b8 := H0.out.2.1.turns td (by simpa using HL.out.2.2.2)
      have ck := b3.cell k
      have cw := b8.cell k
      rw [u32s_get shaK k (by rw [shaK_length]; exact hlt)] at ck
      rw [u32s_get W k (by rw [HL.out.2.1]; exact hlt)] at cw
      have c0 := v7.cell 0
      have c1 := v7.cell 1
      have c2 := v7.cell 2
      have c3 := v7.cell 3
      have c4 := v7.cell 4
      have c5 := v7.cell 5
      have c6 := v7.cell 6
      have c7 := v7.cell 7
      rw [u32s_get T _ (by omega)] at c0 c1 c2 c3 c4 c5 c6 c7
      have hr1 := fun (x y : UInt32) => @round1_eq T (shaK.getD k 0) (W.getD k 0) _ _ _ _ _ _ _ _ rfl rfl rfl rfl rfl rfl rfl rfl x y
      generalize shaK.getD k 0 = kk at ck hrd hr1
      generalize W.getD k 0 = wk at cw hrd hr1
      generalize T.getD 0 0 = t0 at c0 hr1
      generalize T.getD 1 0 = t1 at c1 hr1
      generalize T.getD 2 0 = t2 at c2 hr1
      generalize T.getD 3 0 = t3 at c3 hr1
      generalize T.getD 4 0 = t4 at c4 hr1
      generalize T.getD 5 0 = t5 at c5 hr1
      generalize T.getD 6 0 = t6 at c6 hr1
      generalize T.getD 7 0 = t7 at c7 hr1
      have HR1 := Lib.hid hr1
      have HRD := Lib.hid hrd
      have HV := Lib.hid (And.intro v7 td)
      have HTL := Lib.hid hl8
      have hki : (k : Int) < 64 := by omega
      have HC := Lib.hid (And.intro ck cw)
      clear hr1 hrd v7 td hl8 b3 b8 ck cw
      go_upto_region 31 with fail
      refine ref_R31 p3 p8 p15 k t4 t5 t6 t7 kk wk wr hlt c5 c6 c7 HC.out.1 HC.out.2 (fun _ _ _ _ _ h => HPP.out _ _ _ _ _ h) ?_
      intro y148 y149 y150 y151 y152 y153 y154 y155 y156 y157 y158 y159 y160 y161 y162 y163 y164 y165 y166 y167 y168 y169 y170 y171 y172 y173 y174 y175 y176 y177 w1 hw1
      subst hw1
      go_upto_region 32 with fail
      refine ref_R32 p15 t0 t1 t2 wr.drew c0 c1 c2 (fun _ _ _ _ _ h => HPP.out _ _ _ _ _ h) ?_
      intro y178 y179 y180 y181 y182 y183 y184 y185 y186 y187 y188 y189 y190 y191 y192 y193 y194 y195 y196 y197 y198 y199 y200 y201 y202 y203 y204 y205 y206 w1 hw1
      subst hw1
      obtain ⟨x, hx⟩ : ∃ x, x = t7 + (ror t4 6 ^^^ ror t4 11 ^^^ ror t4 25) + ((t4 &&& t5) ^^^ (~~~t4 &&& t6)) + kk + wk := ⟨_, rfl⟩
      rw [← hx]
      obtain ⟨y, hy⟩ : ∃ y, y = (ror t0 2 ^^^ ror t0 13 ^^^ ror t0 22) + ((t0 &&& t1) ^^^ (t0 &&& t2) ^^^ (t1 &&& t2)) := ⟨_, rfl⟩
      rw [← hy]
      have HR := Lib.hid (show rounds W (k + 1) s = [x + y, t0, t1, t2, t3 + x, t4, t5, t6] by rw [HRD.out, HR1.out x y hx hy])
      have hne : [Value.int .u32 (IntKind.u32.wrap ((x.toNat : Int) + (y.toNat : Int))), .int .u32 t0.toNat, .int .u32 t1.toNat, .int .u32 t2.toNat, .int .u32 (IntKind.u32.wrap ((t3.toNat : Int) + (x.toNat : Int))), .int .u32 t4.toNat, .int .u32 t5.toNat, .int .u32 t6.toNat] = u32s [x + y, t0, t1, t2, t3 + x, t4, t5, t6] := by
        rw [wrapAdd, wrapAdd]; rfl
      have HN := Lib.hid hne
      have Q_b7 := Lib.hid (HV.out.1.drew).drew
      have Q_one := Lib.hid (u32s_one [x + y, t0, t1, t2, t3 + x, t4, t5, t6])
      have Q_len := Lib.hid (show (u32s T).length = (u32s [x + y, t0, t1, t2, t3 + x, t4, t5, t6]).length by rw [u32s_length, u32s_length, HTL.out]; rfl)
      have Q_sz := Lib.hid (show (Tryz.prog.info? 167).map (·.size) = some (u32s [x + y, t0, t1, t2, t3 + x, t4, t5, t6]).length by rw [size_a8, u32s_length]; rfl)
      clear hx hy hne
      go_wp2_with (first
        | (refine wpList_store_blk rfl 167 (.tmp 15) (.tmp 226) rfl p15 (by kernel_rfl) (u32s [x + y, t0, t1, t2, t3 + x, t4, t5, t6]) (u32s T) 167 (by rw [← HN.out]; kernel_rfl) Q_b7.out Q_len.out Q_sz.out Q_one.out (fun y1 hb1 ht1 hs1 => ?_); have HQ' := Lib.hid (And.intro hb1 ht1); clear hb1 ht1 hs1)
        | fail)
      go_roundw
      case rel => exact ⟨k + 1, by omega, by go_num, by rw [HR.out]; exact HQ'.out.1, (HV.out.2.drew).drew.trans HQ'.out.2 (by simp)⟩
      case measure => (simp [intOf] <;> omega)
    · obtain rfl : k = 64 := by omega
      have z64 : ¬ ((64 : Nat) : Int) < 64 := by omega
      have HV := Lib.hid (And.intro v7 td)
      clear v7 td
      go_wp2_with fail
      exact HQ.out _ _ _ _ _ _ _ _ _ _ _ _ _ _ _ _ _ _ _ _ _ _ _ _ _ _ _ _ _ _ _ _ _ _ _ _ _ _ _ _ _ _ _ _ _ _ _ _ _ _ _ _ _ _ _ _ _ _ _ _ _ _ _ _ _ _ _ _ _ _ _ _ _ _ _ _ _ _ _ _ _ _ _ _ _ _ _ _ _ _ HV.out
end Go.Proofs.YtoahnhphfabajaaGreat
namespace Go.Proofs.YtoahnhphfabajaaGreat
set_option maxRecDepth 10000
open Go.RowKit
set_option linter.unusedVariables false
set_option linter.unusedSimpArgs false
set_option linter.unnecessarySimpa false

set_option maxRecDepth 1000000 in
set_option maxHeartbeats 4000000 in
theorem ref_R37 {Q : Exit → Act → World → Prop} {u0 u1 u2 u3 u5 u6 u7 u8 u9 u10 u11 u12 u13 u14 u16 u17 u18 u19 u21 u22 u23 u24 u25 u26 u27 u28 u29 u30 u31 u32 u33 u34 u35 u36 u37 u38 u39 u40 u41 u42 u43 u44 u45 u46 u47 u48 u49 u50 u51 u52 u53 u54 u55 u56 u57 u58 u59 u60 u61 u62 u63 u64 u65 u66 u67 u68 u69 u70 u71 u72 u73 u74 u75 u76 u77 u78 u79 u80 u81 u82 u83 u84 u85 u86 u87 u88 u89 u90 u91 u92 u93 u94 u95 u96 u97 u98 u99 u100 u101 u102 u103 u104 u105 u106 u107 u108 u109 u110 u111 u112 u113 u114 u115 u116 u117 u118 u119 u120 u121 u122 u123 u124 u125 u126 u127 u128 u129 u130 u131 u132 u133 u134 u135 u136 u137 u138 u139 u140 u141 u142 u143 u144 u145 u146 u147 u148 u149 u150 u151 u152 u153 u154 u155 u156 u157 u158 u159 u160 u161 u162 u163 u164 u165 u166 u167 u168 u169 u170 u171 u172 u173 u174 u175 u176 u177 u178 u179 u180 u181 u182 u183 u184 u185 u186 u187 u188 u189 u190 u191 u192 u193 u194 u195 u196 u197 u198 u199 u200 u201 u202 u203 u204 u205 u206 u207 u208 u209 u210 u211 u212 u213 u214 u215 u216 u217 u218 u219 u220 u221 u222 u223 u224 u225 u226 u227 u228 u229 u230 u231 u232 u233 u234 u235 u236 u237 u238 u239 u240 u241 u242 u243 u244 u245 u246 u247 u248 u249 u250 u251 u252 u253 u254 u255 u256 u257 u258 u259 u260 u261 u262 u263 u264 u265 u266 u267 u268 u269 u270 u271 u272 u273 u274 u275 u276 u277 : Value} (p4 p15 k : Nat) (s t : UInt32) (wr : World) (hk : k < 8)
    (cs : wr.cell? ⟨p4, k, none⟩ = some (.int .u32 (s.toNat : Int))) (fs : wr.frozen? ⟨p4, k, none⟩ = false) (ct : wr.cell? ⟨p15, k, none⟩ = some (.int .u32 (t.toNat : Int)))
    (hP : ∀ c (a : Act) (w : World) o v, Q (.panic c) (a.put o v) w → Q (.panic c) a w)
    (hQ : ∀ (x231 x232 x233 x234 x235 x236 x237 x238 : Value)  (w1 : World), (w1 = (wr.setCell ⟨p4, k, none⟩ (.int .u32 ((s + t).toNat : Int))).drew) → Q .normal ⟨(u0 :: u1 :: u2 :: u3 :: (.pointer (some ⟨p4, 0, none⟩)) :: u5 :: u6 :: u7 :: u8 :: u9 :: u10 :: u11 :: u12 :: u13 :: u14 :: (.pointer (some ⟨p15, 0, none⟩)) :: u16 :: u17 :: u18 :: u19 :: (.int .i64 (k : Int)) :: u21 :: u22 :: u23 :: u24 :: u25 :: u26 :: u27 :: u28 :: u29 :: u30 :: u31 :: u32 :: u33 :: u34 :: u35 :: u36 :: u37 :: u38 :: u39 :: u40 :: u41 :: u42 :: u43 :: u44 :: u45 :: u46 :: u47 :: u48 :: u49 :: u50 :: u51 :: u52 :: u53 :: u54 :: u55 :: u56 :: u57 :: u58 :: u59 :: u60 :: u61 :: u62 :: u63 :: u64 :: u65 :: u66 :: u67 :: u68 :: u69 :: u70 :: u71 :: u72 :: u73 :: u74 :: u75 :: u76 :: u77 :: u78 :: u79 :: u80 :: u81 :: u82 :: u83 :: u84 :: u85 :: u86 :: u87 :: u88 :: u89 :: u90 :: u91 :: u92 :: u93 :: u94 :: u95 :: u96 :: u97 :: u98 :: u99 :: u100 :: u101 :: u102 :: u103 :: u104 :: u105 :: u106 :: u107 :: u108 :: u109 :: u110 :: u111 :: u112 :: u113 :: u114 :: u115 :: u116 :: u117 :: u118 :: u119 :: u120 :: u121 :: u122 :: u123 :: u124 :: u125 :: u126 :: u127 :: u128 :: u129 :: u130 :: u131 :: u132 :: u133 :: u134 :: u135 :: u136 :: u137 :: u138 :: u139 :: u140 :: u141 :: u142 :: u143 :: u144 :: u145 :: u146 :: u147 :: u148 :: u149 :: u150 :: u151 :: u152 :: u153 :: u154 :: u155 :: u156 :: u157 :: u158 :: u159 :: u160 :: u161 :: u162 :: u163 :: u164 :: u165 :: u166 :: u167 :: u168 :: u169 :: u170 :: u171 :: u172 :: u173 :: u174 :: u175 :: u176 :: u177 :: u178 :: u179 :: u180 :: u181 :: u182 :: u183 :: u184 :: u185 :: u186 :: u187 :: u188 :: u189 :: u190 :: u191 :: u192 :: u193 :: u194 :: u195 :: u196 :: u197 :: u198 :: u199 :: u200 :: u201 :: u202 :: u203 :: u204 :: u205 :: u206 :: u207 :: u208 :: u209 :: u210 :: u211 :: u212 :: u213 :: u214 :: u215 :: u216 :: u217 :: u218 :: u219 :: u220 :: u221 :: u222 :: u223 :: u224 :: u225 :: u226 :: u227 :: u228 :: u229 :: u230 :: x231 :: x232 :: x233 :: x234 :: x235 :: x236 :: x237 :: x238 :: u239 :: u240 :: u241 :: u242 :: u243 :: u244 :: u245 :: u246 :: u247 :: u248 :: u249 :: u250 :: u251 :: u252 :: u253 :: u254 :: u255 :: u256 :: u257 :: u258 :: u259 :: u260 :: u261 :: u262 :: u263 :: u264 :: u265 :: u266 :: u267 :: u268 :: u269 :: u270 :: u271 :: u272 :: u273 :: u274 :: u275 :: u276 :: u277 :: []).toArray, []⟩ w1) :
    Code.wp Tryz.prog ((Tryz.f65.body.bind (codeRegion 37)).getD .skip) Q ⟨(u0 :: u1 :: u2 :: u3 :: (.pointer (some ⟨p4, 0, none⟩)) :: u5 :: u6 :: u7 :: u8 :: u9 :: u10 :: u11 :: u12 :: u13 :: u14 :: (.pointer (some ⟨p15, 0, none⟩)) :: u16 :: u17 :: u18 :: u19 :: (.int .i64 (k : Int)) :: u21 :: u22 :: u23 :: u24 :: u25 :: u26 :: u27 :: u28 :: u29 :: u30 :: u31 :: u32 :: u33 :: u34 :: u35 :: u36 :: u37 :: u38 :: u39 :: u40 :: u41 :: u42 :: u43 :: u44 :: u45 :: u46 :: u47 :: u48 :: u49 :: u50 :: u51 :: u52 :: u53 :: u54 :: u55 :: u56 :: u57 :: u58 :: u59 :: u60 :: u61 :: u62 :: u63 :: u64 :: u65 :: u66 :: u67 :: u68 :: u69 :: u70 :: u71 :: u72 :: u73 :: u74 :: u75 :: u76 :: u77 :: u78 :: u79 :: u80 :: u81 :: u82 :: u83 :: u84 :: u85 :: u86 :: u87 :: u88 :: u89 :: u90 :: u91 :: u92 :: u93 :: u94 :: u95 :: u96 :: u97 :: u98 :: u99 :: u100 :: u101 :: u102 :: u103 :: u104 :: u105 :: u106 :: u107 :: u108 :: u109 :: u110 :: u111 :: u112 :: u113 :: u114 :: u115 :: u116 :: u117 :: u118 :: u119 :: u120 :: u121 :: u122 :: u123 :: u124 :: u125 :: u126 :: u127 :: u128 :: u129 :: u130 :: u131 :: u132 :: u133 :: u134 :: u135 :: u136 :: u137 :: u138 :: u139 :: u140 :: u141 :: u142 :: u143 :: u144 :: u145 :: u146 :: u147 :: u148 :: u149 :: u150 :: u151 :: u152 :: u153 :: u154 :: u155 :: u156 :: u157 :: u158 :: u159 :: u160 :: u161 :: u162 :: u163 :: u164 :: u165 :: u166 :: u167 :: u168 :: u169 :: u170 :: u171 :: u172 :: u173 :: u174 :: u175 :: u176 :: u177 :: u178 :: u179 :: u180 :: u181 :: u182 :: u183 :: u184 :: u185 :: u186 :: u187 :: u188 :: u189 :: u190 :: u191 :: u192 :: u193 :: u194 :: u195 :: u196 :: u197 :: u198 :: u199 :: u200 :: u201 :: u202 :: u203 :: u204 :: u205 :: u206 :: u207 :: u208 :: u209 :: u210 :: u211 :: u212 :: u213 :: u214 :: u215 :: u216 :: u217 :: u218 :: u219 :: u220 :: u221 :: u222 :: u223 :: u224 :: u225 :: u226 :: u227 :: u228 :: u229 :: u230 :: u231 :: u232 :: u233 :: u234 :: u235 :: u236 :: u237 :: u238 :: u239 :: u240 :: u241 :: u242 :: u243 :: u244 :: u245 :: u246 :: u247 :: u248 :: u249 :: u250 :: u251 :: u252 :: u253 :: u254 :: u255 :: u256 :: u257 :: u258 :: u259 :: u260 :: u261 :: u262 :: u263 :: u264 :: u265 :: u266 :: u267 :: u268 :: u269 :: u270 :: u271 :: u272 :: u273 :: u274 :: u275 :: u276 :: u277 :: []).toArray, []⟩ wr := by
  have HQ := Lib.hid hQ
  have HPP := Lib.hid hP
  clear hQ hP
  conv => arg 2; whnf
  have qk : (k : Int) < 8 := by omega
  have hT : Turns [] wr wr.drew := (Turns.refl _ _).drew
  refine rk0 (fun _ => True) (fun W => Turns [] wr W) 8 9 ?_
  refine rkA 0 231 1 (v := ?_) ?_ (.mk' trivial hT) ?_ (hQ := fun _ _ _ h => HPP.out _ _ _ _ _ h)
  rotate_left
  · intro W hS; go_simp; all_goals with_reducible rfl
  try simp only [sI, sS, sZ]
  refine rkA 1 232 3 (v := ?_) ?_ (.mk' trivial hT) ?_ (hQ := fun _ _ _ h => HPP.out _ _ _ _ _ h)
  rotate_left
  · intro W hS; go_simp; all_goals with_reducible rfl
  try simp only [sI, sS, sZ]
  refine rkT 2 233 7 (v := ?_) ?_ (.mk' trivial hT) ?_ (hQ := fun _ _ _ h => HPP.out _ _ _ _ _ h)
  rotate_left
  · rintro W ⟨-, hS⟩; have c2 := cellL hS cs (by simp); go_simp; all_goals with_reducible rfl
  try simp only [sI, sS, sZ]
  refine rkA 3 234 15 (v := ?_) ?_ (.mk' trivial hT) ?_ (hQ := fun _ _ _ h => HPP.out _ _ _ _ _ h)
  rotate_left
  · intro W hS; go_simp; all_goals with_reducible rfl
  try simp only [sI, sS, sZ]
  refine rkA 4 235 31 (v := ?_) ?_ (.mk' trivial hT) ?_ (hQ := fun _ _ _ h => HPP.out _ _ _ _ _ h)
  rotate_left
  · intro W hS; go_simp; all_goals with_reducible rfl
  try simp only [sI, sS, sZ]
  refine rkT 5 236 63 (v := ?_) ?_ (.mk' trivial hT) ?_ (hQ := fun _ _ _ h => HPP.out _ _ _ _ _ h)
  rotate_left
  · rintro W ⟨-, hS⟩; have c2 := cellL hS ct (by simp); go_simp; all_goals with_reducible rfl
  try simp only [sI, sS, sZ]
  refine rkA 6 237 127 (v := ?_) ?_ (.mk' trivial hT) ?_ (hQ := fun _ _ _ h => HPP.out _ _ _ _ _ h)
  rotate_left
  · intro W hS; go_simp; all_goals with_reducible rfl
  try simp only [sI, sS, sZ]
  refine rkA 7 238 255 (v := ?_) ?_ (.mk' trivial hT) ?_ (hQ := fun _ _ _ h => HPP.out _ _ _ _ _ h)
  rotate_left
  · intro W hS; go_simp; all_goals with_reducible rfl
  try simp only [sI, sS, sZ]
  refine rk1 8 511 (fun K hK => ?_)
  go_simp
  refine hK _ _ (.p trivial) ?_
  clear hK K
  try simp only [sI, sS, sZ]
  refine rkZ ?_
  simp only [wrapAdd]
  exact HQ.out _ _ _ _ _ _ _ _ _ rfl
end Go.Proofs.YtoahnhphfabajaaGreat
namespace Go.Proofs.YtoahnhphfabajaaGreat
set_option maxRecDepth 10000
open Go.RowKit
set_option linter.unusedVariables false
set_option linter.unusedSimpArgs false
set_option linter.unnecessarySimpa false

set_option maxRecDepth 1000000 in
set_option maxHeartbeats 4000000 in
theorem ref_R42 {Q : Exit → Act → World → Prop} {u0 u1 u2 u3 u5 u6 u7 u8 u9 u10 u11 u12 u13 u14 u15 u16 u17 u18 u19 u20 u23 u24 u25 u26 u27 u28 u29 u30 u31 u32 u33 u34 u35 u36 u37 u38 u39 u40 u41 u42 u43 u44 u45 u46 u47 u48 u49 u50 u51 u52 u53 u54 u55 u56 u57 u58 u59 u60 u61 u62 u63 u64 u65 u66 u67 u68 u69 u70 u71 u72 u73 u74 u75 u76 u77 u78 u79 u80 u81 u82 u83 u84 u85 u86 u87 u88 u89 u90 u91 u92 u93 u94 u95 u96 u97 u98 u99 u100 u101 u102 u103 u104 u105 u106 u107 u108 u109 u110 u111 u112 u113 u114 u115 u116 u117 u118 u119 u120 u121 u122 u123 u124 u125 u126 u127 u128 u129 u130 u131 u132 u133 u134 u135 u136 u137 u138 u139 u140 u141 u142 u143 u144 u145 u146 u147 u148 u149 u150 u151 u152 u153 u154 u155 u156 u157 u158 u159 u160 u161 u162 u163 u164 u165 u166 u167 u168 u169 u170 u171 u172 u173 u174 u175 u176 u177 u178 u179 u180 u181 u182 u183 u184 u185 u186 u187 u188 u189 u190 u191 u192 u193 u194 u195 u196 u197 u198 u199 u200 u201 u202 u203 u204 u205 u206 u207 u208 u209 u210 u211 u212 u213 u214 u215 u216 u217 u218 u219 u220 u221 u222 u223 u224 u225 u226 u227 u228 u229 u230 u231 u232 u233 u234 u235 u236 u237 u238 u239 u240 u241 u242 u243 u244 u245 u246 u247 u248 u249 u250 u251 u252 u253 u254 u255 u256 u257 u258 u259 u260 u261 u262 u263 u264 u265 u266 u267 u268 u269 u270 u271 u272 u273 u274 u275 u276 u277 : Value} (p4 p21 k : Nat) (s : UInt32) (z0 z1 z2 z3 : Value) (wr : World) (hk : k < 8) (hne : p4 ≠ p21)
    (cs : wr.cell? ⟨p4, k, none⟩ = some (.int .u32 (s.toNat : Int)))
    (d0 : wr.cell? ⟨p21, 4 * k, none⟩ = some z0) (d1 : wr.cell? ⟨p21, 4 * k + 1, none⟩ = some z1) (d2 : wr.cell? ⟨p21, 4 * k + 2, none⟩ = some z2) (d3 : wr.cell? ⟨p21, 4 * k + 3, none⟩ = some z3)
    (f0 : wr.frozen? ⟨p21, 4 * k, none⟩ = false) (f1 : wr.frozen? ⟨p21, 4 * k + 1, none⟩ = false) (f2 : wr.frozen? ⟨p21, 4 * k + 2, none⟩ = false) (f3 : wr.frozen? ⟨p21, 4 * k + 3, none⟩ = false)
    (hP : ∀ c (a : Act) (w : World) o v, Q (.panic c) (a.put o v) w → Q (.panic c) a w)
    (hQ : ∀ (x243 x244 x245 x246 x247 x248 x249 x250 x251 x252 x253 x254 x255 x256 x257 x258 x259 x260 x261 x262 x263 x264 x265 x266 x267 x268 x269 x270 x271 x272 x273 x274 x275 x276 : Value)  (w1 : World), (w1 = ((((wr.setCell ⟨p21, 4 * k, none⟩ (.int .u8 (IntKind.u8.wrap ((s.toNat : Int) / 16777216)))).setCell ⟨p21, 4 * k + 1, none⟩ (.int .u8 (IntKind.u8.wrap ((s.toNat : Int) / 65536)))).setCell ⟨p21, 4 * k + 2, none⟩ (.int .u8 (IntKind.u8.wrap ((s.toNat : Int) / 256)))).setCell ⟨p21, 4 * k + 3, none⟩ (.int .u8 (IntKind.u8.wrap ((s.toNat : Int))))).drew) → Q .normal ⟨(u0 :: u1 :: u2 :: u3 :: (.pointer (some ⟨p4, 0, none⟩)) :: u5 :: u6 :: u7 :: u8 :: u9 :: u10 :: u11 :: u12 :: u13 :: u14 :: u15 :: u16 :: u17 :: u18 :: u19 :: u20 :: (.pointer (some ⟨p21, 0, none⟩)) :: (.int .i64 (k : Int)) :: u23 :: u24 :: u25 :: u26 :: u27 :: u28 :: u29 :: u30 :: u31 :: u32 :: u33 :: u34 :: u35 :: u36 :: u37 :: u38 :: u39 :: u40 :: u41 :: u42 :: u43 :: u44 :: u45 :: u46 :: u47 :: u48 :: u49 :: u50 :: u51 :: u52 :: u53 :: u54 :: u55 :: u56 :: u57 :: u58 :: u59 :: u60 :: u61 :: u62 :: u63 :: u64 :: u65 :: u66 :: u67 :: u68 :: u69 :: u70 :: u71 :: u72 :: u73 :: u74 :: u75 :: u76 :: u77 :: u78 :: u79 :: u80 :: u81 :: u82 :: u83 :: u84 :: u85 :: u86 :: u87 :: u88 :: u89 :: u90 :: u91 :: u92 :: u93 :: u94 :: u95 :: u96 :: u97 :: u98 :: u99 :: u100 :: u101 :: u102 :: u103 :: u104 :: u105 :: u106 :: u107 :: u108 :: u109 :: u110 :: u111 :: u112 :: u113 :: u114 :: u115 :: u116 :: u117 :: u118 :: u119 :: u120 :: u121 :: u122 :: u123 :: u124 :: u125 :: u126 :: u127 :: u128 :: u129 :: u130 :: u131 :: u132 :: u133 :: u134 :: u135 :: u136 :: u137 :: u138 :: u139 :: u140 :: u141 :: u142 :: u143 :: u144 :: u145 :: u146 :: u147 :: u148 :: u149 :: u150 :: u151 :: u152 :: u153 :: u154 :: u155 :: u156 :: u157 :: u158 :: u159 :: u160 :: u161 :: u162 :: u163 :: u164 :: u165 :: u166 :: u167 :: u168 :: u169 :: u170 :: u171 :: u172 :: u173 :: u174 :: u175 :: u176 :: u177 :: u178 :: u179 :: u180 :: u181 :: u182 :: u183 :: u184 :: u185 :: u186 :: u187 :: u188 :: u189 :: u190 :: u191 :: u192 :: u193 :: u194 :: u195 :: u196 :: u197 :: u198 :: u199 :: u200 :: u201 :: u202 :: u203 :: u204 :: u205 :: u206 :: u207 :: u208 :: u209 :: u210 :: u211 :: u212 :: u213 :: u214 :: u215 :: u216 :: u217 :: u218 :: u219 :: u220 :: u221 :: u222 :: u223 :: u224 :: u225 :: u226 :: u227 :: u228 :: u229 :: u230 :: u231 :: u232 :: u233 :: u234 :: u235 :: u236 :: u237 :: u238 :: u239 :: u240 :: u241 :: u242 :: x243 :: x244 :: x245 :: x246 :: x247 :: x248 :: x249 :: x250 :: x251 :: x252 :: x253 :: x254 :: x255 :: x256 :: x257 :: x258 :: x259 :: x260 :: x261 :: x262 :: x263 :: x264 :: x265 :: x266 :: x267 :: x268 :: x269 :: x270 :: x271 :: x272 :: x273 :: x274 :: x275 :: x276 :: u277 :: []).toArray, []⟩ w1) :
    Code.wp Tryz.prog ((Tryz.f65.body.bind (codeRegion 42)).getD .skip) Q ⟨(u0 :: u1 :: u2 :: u3 :: (.pointer (some ⟨p4, 0, none⟩)) :: u5 :: u6 :: u7 :: u8 :: u9 :: u10 :: u11 :: u12 :: u13 :: u14 :: u15 :: u16 :: u17 :: u18 :: u19 :: u20 :: (.pointer (some ⟨p21, 0, none⟩)) :: (.int .i64 (k : Int)) :: u23 :: u24 :: u25 :: u26 :: u27 :: u28 :: u29 :: u30 :: u31 :: u32 :: u33 :: u34 :: u35 :: u36 :: u37 :: u38 :: u39 :: u40 :: u41 :: u42 :: u43 :: u44 :: u45 :: u46 :: u47 :: u48 :: u49 :: u50 :: u51 :: u52 :: u53 :: u54 :: u55 :: u56 :: u57 :: u58 :: u59 :: u60 :: u61 :: u62 :: u63 :: u64 :: u65 :: u66 :: u67 :: u68 :: u69 :: u70 :: u71 :: u72 :: u73 :: u74 :: u75 :: u76 :: u77 :: u78 :: u79 :: u80 :: u81 :: u82 :: u83 :: u84 :: u85 :: u86 :: u87 :: u88 :: u89 :: u90 :: u91 :: u92 :: u93 :: u94 :: u95 :: u96 :: u97 :: u98 :: u99 :: u100 :: u101 :: u102 :: u103 :: u104 :: u105 :: u106 :: u107 :: u108 :: u109 :: u110 :: u111 :: u112 :: u113 :: u114 :: u115 :: u116 :: u117 :: u118 :: u119 :: u120 :: u121 :: u122 :: u123 :: u124 :: u125 :: u126 :: u127 :: u128 :: u129 :: u130 :: u131 :: u132 :: u133 :: u134 :: u135 :: u136 :: u137 :: u138 :: u139 :: u140 :: u141 :: u142 :: u143 :: u144 :: u145 :: u146 :: u147 :: u148 :: u149 :: u150 :: u151 :: u152 :: u153 :: u154 :: u155 :: u156 :: u157 :: u158 :: u159 :: u160 :: u161 :: u162 :: u163 :: u164 :: u165 :: u166 :: u167 :: u168 :: u169 :: u170 :: u171 :: u172 :: u173 :: u174 :: u175 :: u176 :: u177 :: u178 :: u179 :: u180 :: u181 :: u182 :: u183 :: u184 :: u185 :: u186 :: u187 :: u188 :: u189 :: u190 :: u191 :: u192 :: u193 :: u194 :: u195 :: u196 :: u197 :: u198 :: u199 :: u200 :: u201 :: u202 :: u203 :: u204 :: u205 :: u206 :: u207 :: u208 :: u209 :: u210 :: u211 :: u212 :: u213 :: u214 :: u215 :: u216 :: u217 :: u218 :: u219 :: u220 :: u221 :: u222 :: u223 :: u224 :: u225 :: u226 :: u227 :: u228 :: u229 :: u230 :: u231 :: u232 :: u233 :: u234 :: u235 :: u236 :: u237 :: u238 :: u239 :: u240 :: u241 :: u242 :: u243 :: u244 :: u245 :: u246 :: u247 :: u248 :: u249 :: u250 :: u251 :: u252 :: u253 :: u254 :: u255 :: u256 :: u257 :: u258 :: u259 :: u260 :: u261 :: u262 :: u263 :: u264 :: u265 :: u266 :: u267 :: u268 :: u269 :: u270 :: u271 :: u272 :: u273 :: u274 :: u275 :: u276 :: u277 :: []).toArray, []⟩ wr := by
  have HQ := Lib.hid hQ
  have HPP := Lib.hid hP
  clear hQ hP
  conv => arg 2; whnf
  have qk : (k : Int) < 8 := by omega
  have ha0 : 0 ≤ 4 * (k : Int) := by omega
  have hb0 : 4 * (k : Int) < 32 := by omega
  have hw0 : IntKind.i64.wrap (4 * (k : Int)) = 4 * (k : Int) := IntWalk.i64_in _ (by omega)
  have he0 : (4 * (k : Int)).toNat = 4 * k := by omega
  have ha1 : 0 ≤ 4 * (k : Int) + 1 := by omega
  have hb1 : 4 * (k : Int) + 1 < 32 := by omega
  have hw1 : IntKind.i64.wrap (4 * (k : Int) + 1) = 4 * (k : Int) + 1 := IntWalk.i64_in _ (by omega)
  have he1 : (4 * (k : Int) + 1).toNat = 4 * k + 1 := by omega
  have ha2 : 0 ≤ 4 * (k : Int) + 2 := by omega
  have hb2 : 4 * (k : Int) + 2 < 32 := by omega
  have hw2 : IntKind.i64.wrap (4 * (k : Int) + 2) = 4 * (k : Int) + 2 := IntWalk.i64_in _ (by omega)
  have he2 : (4 * (k : Int) + 2).toNat = 4 * k + 2 := by omega
  have ha3 : 0 ≤ 4 * (k : Int) + 3 := by omega
  have hb3 : 4 * (k : Int) + 3 < 32 := by omega
  have hw3 : IntKind.i64.wrap (4 * (k : Int) + 3) = 4 * (k : Int) + 3 := IntWalk.i64_in _ (by omega)
  have he3 : (4 * (k : Int) + 3).toNat = 4 * k + 3 := by omega
  have hT : Turns [p21] wr wr.drew := (Turns.refl _ _).drew
  refine rk0 (fun W => Turns [p21] wr W) (fun _ => True) 38 38 ?_
  refine rkA 0 243 1 (v := ?_) ?_ (.mk' hT trivial) ?_ (hQ := fun _ _ _ h => HPP.out _ _ _ _ _ h)
  rotate_left
  · intro W hS; go_simp; all_goals with_reducible rfl
  try simp only [sI, sS, sZ]
  refine rkA 1 244 3 (v := ?_) ?_ (.mk' hT trivial) ?_ (hQ := fun _ _ _ h => HPP.out _ _ _ _ _ h)
  rotate_left
  · intro W hS; go_simp; all_goals with_reducible rfl
  try simp only [sI, sS, sZ]
  refine rkA 2 245 7 (v := ?_) ?_ (.mk' hT trivial) ?_ (hQ := fun _ _ _ h => HPP.out _ _ _ _ _ h)
  rotate_left
  · intro W hS; go_simp; all_goals with_reducible rfl
  try simp only [sI, sS, sZ]
  refine rkA 3 246 15 (v := ?_) ?_ (.mk' hT trivial) ?_ (hQ := fun _ _ _ h => HPP.out _ _ _ _ _ h)
  rotate_left
  · intro W hS; go_simp; all_goals with_reducible rfl
  try simp only [sI, sS, sZ]
  refine rkA 4 247 31 (v := ?_) ?_ (.mk' hT trivial) ?_ (hQ := fun _ _ _ h => HPP.out _ _ _ _ _ h)
  rotate_left
  · intro W hS; go_simp; all_goals with_reducible rfl
  try simp only [sI, sS, sZ]
  refine rkA 5 248 63 (v := ?_) ?_ (.mk' hT trivial) ?_ (hQ := fun _ _ _ h => HPP.out _ _ _ _ _ h)
  rotate_left
  · intro W hS; go_simp; all_goals with_reducible rfl
  try simp only [sI, sS, sZ]
  refine rkA 6 249 127 (v := ?_) ?_ (.mk' hT trivial) ?_ (hQ := fun _ _ _ h => HPP.out _ _ _ _ _ h)
  rotate_left
  · intro W hS; go_simp; all_goals with_reducible rfl
  try simp only [sI, sS, sZ]
  refine rkA 7 250 255 (v := ?_) ?_ (.mk' hT trivial) ?_ (hQ := fun _ _ _ h => HPP.out _ _ _ _ _ h)
  rotate_left
  · intro W hS; go_simp; all_goals with_reducible rfl
  try simp only [sI, sS, sZ]
  refine rkA 8 251 511 (v := ?_) ?_ (.mk' hT trivial) ?_ (hQ := fun _ _ _ h => HPP.out _ _ _ _ _ h)
  rotate_left
  · intro W hS; go_simp; all_goals with_reducible rfl
  try simp only [sI, sS, sZ]
  refine rkA 9 252 1023 (v := ?_) ?_ (.mk' hT trivial) ?_ (hQ := fun _ _ _ h => HPP.out _ _ _ _ _ h)
  rotate_left
  · intro W hS; go_simp; all_goals with_reducible rfl
  try simp only [sI, sS, sZ]
  refine rkA 10 253 2047 (v := ?_) ?_ (.mk' hT trivial) ?_ (hQ := fun _ _ _ h => HPP.out _ _ _ _ _ h)
  rotate_left
  · intro W hS; go_simp; all_goals with_reducible rfl
  try simp only [sI, sS, sZ]
  refine rkA 11 254 4095 (v := ?_) ?_ (.mk' hT trivial) ?_ (hQ := fun _ _ _ h => HPP.out _ _ _ _ _ h)
  rotate_left
  · intro W hS; go_simp; all_goals with_reducible rfl
  try simp only [sI, sS, sZ]
  refine rkA 12 255 8191 (v := ?_) ?_ (.mk' hT trivial) ?_ (hQ := fun _ _ _ h => HPP.out _ _ _ _ _ h)
  rotate_left
  · intro W hS; go_simp; all_goals with_reducible rfl
  try simp only [sI, sS, sZ]
  refine rkA 13 256 16383 (v := ?_) ?_ (.mk' hT trivial) ?_ (hQ := fun _ _ _ h => HPP.out _ _ _ _ _ h)
  rotate_left
  · intro W hS; have c2 := cellL hS cs (by simpa using hne); go_simp; all_goals with_reducible rfl
  try simp only [sI, sS, sZ]
  refine rkA 14 257 32767 (v := ?_) ?_ (.mk' hT trivial) ?_ (hQ := fun _ _ _ h => HPP.out _ _ _ _ _ h)
  rotate_left
  · intro W hS; go_simp; all_goals with_reducible rfl
  try simp only [sI, sS, sZ]
  refine rkA 15 258 65535 (v := ?_) ?_ (.mk' hT trivial) ?_ (hQ := fun _ _ _ h => HPP.out _ _ _ _ _ h)
  rotate_left
  · intro W hS; go_simp; all_goals with_reducible rfl
  try simp only [sI, sS, sZ]
  refine rkA 16 259 131071 (v := ?_) ?_ (.mk' hT trivial) ?_ (hQ := fun _ _ _ h => HPP.out _ _ _ _ _ h)
  rotate_left
  · intro W hS; go_simp; all_goals with_reducible rfl
  try simp only [sI, sS, sZ]
  refine rkA 17 260 262143 (v := ?_) ?_ (.mk' hT trivial) ?_ (hQ := fun _ _ _ h => HPP.out _ _ _ _ _ h)
  rotate_left
  · intro W hS; go_simp; all_goals with_reducible rfl
  try simp only [sI, sS, sZ]
  refine rkA 18 261 524287 (v := ?_) ?_ (.mk' hT trivial) ?_ (hQ := fun _ _ _ h => HPP.out _ _ _ _ _ h)
  rotate_left
  · intro W hS; have c2 := cellL hS cs (by simpa using hne); go_simp; all_goals with_reducible rfl
  try simp only [sI, sS, sZ]
  refine rkA 19 262 1048575 (v := ?_) ?_ (.mk' hT trivial) ?_ (hQ := fun _ _ _ h => HPP.out _ _ _ _ _ h)
  rotate_left
  · intro W hS; go_simp; all_goals with_reducible rfl
  try simp only [sI, sS, sZ]
  refine rkA 20 263 2097151 (v := ?_) ?_ (.mk' hT trivial) ?_ (hQ := fun _ _ _ h => HPP.out _ _ _ _ _ h)
  rotate_left
  · intro W hS; go_simp; all_goals with_reducible rfl
  try simp only [sI, sS, sZ]
  refine rkA 21 264 4194303 (v := ?_) ?_ (.mk' hT trivial) ?_ (hQ := fun _ _ _ h => HPP.out _ _ _ _ _ h)
  rotate_left
  · intro W hS; go_simp; all_goals with_reducible rfl
  try simp only [sI, sS, sZ]
  refine rkA 22 265 8388607 (v := ?_) ?_ (.mk' hT trivial) ?_ (hQ := fun _ _ _ h => HPP.out _ _ _ _ _ h)
  rotate_left
  · intro W hS; go_simp; all_goals with_reducible rfl
  try simp only [sI, sS, sZ]
  refine rkA 23 266 16777215 (v := ?_) ?_ (.mk' hT trivial) ?_ (hQ := fun _ _ _ h => HPP.out _ _ _ _ _ h)
  rotate_left
  · intro W hS; have c2 := cellL hS cs (by simpa using hne); go_simp; all_goals with_reducible rfl
  try simp only [sI, sS, sZ]
  refine rkA 24 267 33554431 (v := ?_) ?_ (.mk' hT trivial) ?_ (hQ := fun _ _ _ h => HPP.out _ _ _ _ _ h)
  rotate_left
  · intro W hS; go_simp; all_goals with_reducible rfl
  try simp only [sI, sS, sZ]
  refine rkA 25 268 67108863 (v := ?_) ?_ (.mk' hT trivial) ?_ (hQ := fun _ _ _ h => HPP.out _ _ _ _ _ h)
  rotate_left
  · intro W hS; go_simp; all_goals with_reducible rfl
  try simp only [sI, sS, sZ]
  refine rkA 26 269 134217727 (v := ?_) ?_ (.mk' hT trivial) ?_ (hQ := fun _ _ _ h => HPP.out _ _ _ _ _ h)
  rotate_left
  · intro W hS; go_simp; all_goals with_reducible rfl
  try simp only [sI, sS, sZ]
  refine rkA 27 270 268435455 (v := ?_) ?_ (.mk' hT trivial) ?_ (hQ := fun _ _ _ h => HPP.out _ _ _ _ _ h)
  rotate_left
  · intro W hS; go_simp; all_goals with_reducible rfl
  try simp only [sI, sS, sZ]
  refine rkA 28 271 536870911 (v := ?_) ?_ (.mk' hT trivial) ?_ (hQ := fun _ _ _ h => HPP.out _ _ _ _ _ h)
  rotate_left
  · intro W hS; have c2 := cellL hS cs (by simpa using hne); go_simp; all_goals with_reducible rfl
  try simp only [sI, sS, sZ]
  refine rkA 29 272 1073741823 (v := ?_) ?_ (.mk' hT trivial) ?_ (hQ := fun _ _ _ h => HPP.out _ _ _ _ _ h)
  rotate_left
  · intro W hS; go_simp; all_goals with_reducible rfl
  try simp only [sI, sS, sZ]
  refine rkA 30 273 2147483647 (v := ?_) ?_ (.mk' hT trivial) ?_ (hQ := fun _ _ _ h => HPP.out _ _ _ _ _ h)
  rotate_left
  · intro W hS; go_simp; all_goals with_reducible rfl
  try simp only [sI, sS, sZ]
  refine rk1 31 4294967295 (fun K hK => ?_)
  go_simp
  have hS0 := Turns.setCell (L := [p21]) hT (p := ⟨p21, 4 * k, none⟩) (.inl (by simp)) (.int .u8 (IntKind.u8.wrap ((s.toNat : Int) / 16777216)))
  refine hK _ _ (.mk' hS0 trivial) ?_
  clear hK K
  try simp only [sI, sS, sZ]
  refine rkA 32 274 8589934591 (v := ?_) ?_ (.mk' hS0 trivial) ?_ (hQ := fun _ _ _ h => HPP.out _ _ _ _ _ h)
  rotate_left
  · intro W hS; go_simp; all_goals with_reducible rfl
  try simp only [sI, sS, sZ]
  refine rk1 33 17179869183 (fun K hK => ?_)
  go_simp
  have hS1 := Turns.setCell (L := [p21]) hS0 (p := ⟨p21, 4 * k + 1, none⟩) (.inl (by simp)) (.int .u8 (IntKind.u8.wrap ((s.toNat : Int) / 65536)))
  refine hK _ _ (.mk' hS1 trivial) ?_
  clear hK K
  try simp only [sI, sS, sZ]
  refine rkA 34 275 34359738367 (v := ?_) ?_ (.mk' hS1 trivial) ?_ (hQ := fun _ _ _ h => HPP.out _ _ _ _ _ h)
  rotate_left
  · intro W hS; go_simp; all_goals with_reducible rfl
  try simp only [sI, sS, sZ]
  refine rk1 35 68719476735 (fun K hK => ?_)
  go_simp
  have hS2 := Turns.setCell (L := [p21]) hS1 (p := ⟨p21, 4 * k + 2, none⟩) (.inl (by simp)) (.int .u8 (IntKind.u8.wrap ((s.toNat : Int) / 256)))
  refine hK _ _ (.mk' hS2 trivial) ?_
  clear hK K
  try simp only [sI, sS, sZ]
  refine rkA 36 276 137438953471 (v := ?_) ?_ (.mk' hS2 trivial) ?_ (hQ := fun _ _ _ h => HPP.out _ _ _ _ _ h)
  rotate_left
  · intro W hS; go_simp; all_goals with_reducible rfl
  try simp only [sI, sS, sZ]
  refine rk1 37 274877906943 (fun K hK => ?_)
  go_simp
  have hS3 := Turns.setCell (L := [p21]) hS2 (p := ⟨p21, 4 * k + 3, none⟩) (.inl (by simp)) (.int .u8 (IntKind.u8.wrap ((s.toNat : Int))))
  refine hK _ _ (.mk' hS3 trivial) ?_
  clear hK K
  try simp only [sI, sS, sZ]
  refine rkZ ?_
  exact HQ.out _ _ _ _ _ _ _ _ _ _ _ _ _ _ _ _ _ _ _ _ _ _ _ _ _ _ _ _ _ _ _ _ _ _ _ rfl
end Go.Proofs.YtoahnhphfabajaaGreat
namespace Go.Proofs.YtoahnhphfabajaaGreat
set_option maxRecDepth 10000
open Go.RowKit
set_option linter.unusedVariables false
set_option linter.unusedSimpArgs false
set_option linter.unnecessarySimpa false

set_option maxRecDepth 1000000 in
set_option maxHeartbeats 4000000 in
theorem ref_L12 {Q : Exit → Act → World → Prop} {u0 u1 u2 u3 u5 u6 u7 u8 u9 u10 u11 u12 u13 u14 u16 u17 u18 u19 u21 u22 u23 u24 u25 u26 u27 u28 u29 u30 u31 u32 u33 u34 u35 u36 u37 u38 u39 u40 u41 u42 u43 u44 u45 u46 u47 u48 u49 u50 u51 u52 u53 u54 u55 u56 u57 u58 u59 u60 u61 u62 u63 u64 u65 u66 u67 u68 u69 u70 u71 u72 u73 u74 u75 u76 u77 u78 u79 u80 u81 u82 u83 u84 u85 u86 u87 u88 u89 u90 u91 u92 u93 u94 u95 u96 u97 u98 u99 u100 u101 u102 u103 u104 u105 u106 u107 u108 u109 u110 u111 u112 u113 u114 u115 u116 u117 u118 u119 u120 u121 u122 u123 u124 u125 u126 u127 u128 u129 u130 u131 u132 u133 u134 u135 u136 u137 u138 u139 u140 u141 u142 u143 u144 u145 u146 u147 u148 u149 u150 u151 u152 u153 u154 u155 u156 u157 u158 u159 u160 u161 u162 u163 u164 u165 u166 u167 u168 u169 u170 u171 u172 u173 u174 u175 u176 u177 u178 u179 u180 u181 u182 u183 u184 u185 u186 u187 u188 u189 u190 u191 u192 u193 u194 u195 u196 u197 u198 u199 u200 u201 u202 u203 u204 u205 u206 u207 u208 u209 u210 u211 u212 u213 u214 u215 u216 u217 u218 u219 u220 u221 u222 u223 u224 u225 u226 u227 u228 u229 u230 u231 u232 u233 u234 u235 u236 u237 u238 u239 u240 u241 u242 u243 u244 u245 u246 u247 u248 u249 u250 u251 u252 u253 u254 u255 u256 u257 u258 u259 u260 u261 u262 u263 u264 u265 u266 u267 u268 u269 u270 u271 u272 u273 u274 u275 u276 u277 : Value} (p4 p15 : Nat) (s T : List UInt32) (w : World) (hs : s.length = 8) (hT : T.length = 8) (hne : p4 ≠ p15) (hb4 : Blk w p4 (u32s s) 167) (hb15 : Blk w p15 (u32s T) 167)
    (hP : ∀ c (a : Act) (w : World) o v, Q (.panic c) (a.put o v) w → Q (.panic c) a w)
    (hQ : ∀ (x20 x227 x228 x229 x230 x231 x232 x233 x234 x235 x236 x237 x238 : Value)  (w1 : World), (Blk w1 p4 (u32s (addL T s)) 167 ∧ Turns [p4] w w1) → Q .normal ⟨(u0 :: u1 :: u2 :: u3 :: (.pointer (some ⟨p4, 0, none⟩)) :: u5 :: u6 :: u7 :: u8 :: u9 :: u10 :: u11 :: u12 :: u13 :: u14 :: (.pointer (some ⟨p15, 0, none⟩)) :: u16 :: u17 :: u18 :: u19 :: x20 :: u21 :: u22 :: u23 :: u24 :: u25 :: u26 :: u27 :: u28 :: u29 :: u30 :: u31 :: u32 :: u33 :: u34 :: u35 :: u36 :: u37 :: u38 :: u39 :: u40 :: u41 :: u42 :: u43 :: u44 :: u45 :: u46 :: u47 :: u48 :: u49 :: u50 :: u51 :: u52 :: u53 :: u54 :: u55 :: u56 :: u57 :: u58 :: u59 :: u60 :: u61 :: u62 :: u63 :: u64 :: u65 :: u66 :: u67 :: u68 :: u69 :: u70 :: u71 :: u72 :: u73 :: u74 :: u75 :: u76 :: u77 :: u78 :: u79 :: u80 :: u81 :: u82 :: u83 :: u84 :: u85 :: u86 :: u87 :: u88 :: u89 :: u90 :: u91 :: u92 :: u93 :: u94 :: u95 :: u96 :: u97 :: u98 :: u99 :: u100 :: u101 :: u102 :: u103 :: u104 :: u105 :: u106 :: u107 :: u108 :: u109 :: u110 :: u111 :: u112 :: u113 :: u114 :: u115 :: u116 :: u117 :: u118 :: u119 :: u120 :: u121 :: u122 :: u123 :: u124 :: u125 :: u126 :: u127 :: u128 :: u129 :: u130 :: u131 :: u132 :: u133 :: u134 :: u135 :: u136 :: u137 :: u138 :: u139 :: u140 :: u141 :: u142 :: u143 :: u144 :: u145 :: u146 :: u147 :: u148 :: u149 :: u150 :: u151 :: u152 :: u153 :: u154 :: u155 :: u156 :: u157 :: u158 :: u159 :: u160 :: u161 :: u162 :: u163 :: u164 :: u165 :: u166 :: u167 :: u168 :: u169 :: u170 :: u171 :: u172 :: u173 :: u174 :: u175 :: u176 :: u177 :: u178 :: u179 :: u180 :: u181 :: u182 :: u183 :: u184 :: u185 :: u186 :: u187 :: u188 :: u189 :: u190 :: u191 :: u192 :: u193 :: u194 :: u195 :: u196 :: u197 :: u198 :: u199 :: u200 :: u201 :: u202 :: u203 :: u204 :: u205 :: u206 :: u207 :: u208 :: u209 :: u210 :: u211 :: u212 :: u213 :: u214 :: u215 :: u216 :: u217 :: u218 :: u219 :: u220 :: u221 :: u222 :: u223 :: u224 :: u225 :: u226 :: x227 :: x228 :: x229 :: x230 :: x231 :: x232 :: x233 :: x234 :: x235 :: x236 :: x237 :: x238 :: u239 :: u240 :: u241 :: u242 :: u243 :: u244 :: u245 :: u246 :: u247 :: u248 :: u249 :: u250 :: u251 :: u252 :: u253 :: u254 :: u255 :: u256 :: u257 :: u258 :: u259 :: u260 :: u261 :: u262 :: u263 :: u264 :: u265 :: u266 :: u267 :: u268 :: u269 :: u270 :: u271 :: u272 :: u273 :: u274 :: u275 :: u276 :: u277 :: []).toArray, []⟩ w1) :
    Code.wp Tryz.prog ((Tryz.f65.body.bind (codeBlock 12)).getD .skip) Q ⟨(u0 :: u1 :: u2 :: u3 :: (.pointer (some ⟨p4, 0, none⟩)) :: u5 :: u6 :: u7 :: u8 :: u9 :: u10 :: u11 :: u12 :: u13 :: u14 :: (.pointer (some ⟨p15, 0, none⟩)) :: u16 :: u17 :: u18 :: u19 :: (.int .i64 0) :: u21 :: u22 :: u23 :: u24 :: u25 :: u26 :: u27 :: u28 :: u29 :: u30 :: u31 :: u32 :: u33 :: u34 :: u35 :: u36 :: u37 :: u38 :: u39 :: u40 :: u41 :: u42 :: u43 :: u44 :: u45 :: u46 :: u47 :: u48 :: u49 :: u50 :: u51 :: u52 :: u53 :: u54 :: u55 :: u56 :: u57 :: u58 :: u59 :: u60 :: u61 :: u62 :: u63 :: u64 :: u65 :: u66 :: u67 :: u68 :: u69 :: u70 :: u71 :: u72 :: u73 :: u74 :: u75 :: u76 :: u77 :: u78 :: u79 :: u80 :: u81 :: u82 :: u83 :: u84 :: u85 :: u86 :: u87 :: u88 :: u89 :: u90 :: u91 :: u92 :: u93 :: u94 :: u95 :: u96 :: u97 :: u98 :: u99 :: u100 :: u101 :: u102 :: u103 :: u104 :: u105 :: u106 :: u107 :: u108 :: u109 :: u110 :: u111 :: u112 :: u113 :: u114 :: u115 :: u116 :: u117 :: u118 :: u119 :: u120 :: u121 :: u122 :: u123 :: u124 :: u125 :: u126 :: u127 :: u128 :: u129 :: u130 :: u131 :: u132 :: u133 :: u134 :: u135 :: u136 :: u137 :: u138 :: u139 :: u140 :: u141 :: u142 :: u143 :: u144 :: u145 :: u146 :: u147 :: u148 :: u149 :: u150 :: u151 :: u152 :: u153 :: u154 :: u155 :: u156 :: u157 :: u158 :: u159 :: u160 :: u161 :: u162 :: u163 :: u164 :: u165 :: u166 :: u167 :: u168 :: u169 :: u170 :: u171 :: u172 :: u173 :: u174 :: u175 :: u176 :: u177 :: u178 :: u179 :: u180 :: u181 :: u182 :: u183 :: u184 :: u185 :: u186 :: u187 :: u188 :: u189 :: u190 :: u191 :: u192 :: u193 :: u194 :: u195 :: u196 :: u197 :: u198 :: u199 :: u200 :: u201 :: u202 :: u203 :: u204 :: u205 :: u206 :: u207 :: u208 :: u209 :: u210 :: u211 :: u212 :: u213 :: u214 :: u215 :: u216 :: u217 :: u218 :: u219 :: u220 :: u221 :: u222 :: u223 :: u224 :: u225 :: u226 :: u227 :: u228 :: u229 :: u230 :: u231 :: u232 :: u233 :: u234 :: u235 :: u236 :: u237 :: u238 :: u239 :: u240 :: u241 :: u242 :: u243 :: u244 :: u245 :: u246 :: u247 :: u248 :: u249 :: u250 :: u251 :: u252 :: u253 :: u254 :: u255 :: u256 :: u257 :: u258 :: u259 :: u260 :: u261 :: u262 :: u263 :: u264 :: u265 :: u266 :: u267 :: u268 :: u269 :: u270 :: u271 :: u272 :: u273 :: u274 :: u275 :: u276 :: u277 :: []).toArray, []⟩ w := by
  have HQ := Lib.hid hQ
  have HPP := Lib.hid hP
  clear hQ hP
  conv => arg 2; whnf
  have HL := Lib.hid (And.intro hs (And.intro hT hne))
  have H0 := Lib.hid (And.intro hb4 hb15)
  clear hb4 hb15 hs hT hne
  go_wp2_with fail
  go_loopw [20] (fun i wr => ∃ j : Nat, j ≤ 8 ∧ i = .int .i64 j ∧ Blk wr p4 (u32s (addTo T s j)) 167 ∧ Turns [p4] w wr) (fun i _ => 8 - (intOf i).toNat)
  case atStart => exact ⟨0, by omega, rfl, H0.out.1, Turns.refl _ _⟩
  case round =>
    obtain ⟨j, hj, rfl, v4, td⟩ := hrel
    by_cases hlt : j < 8
    · have hal : (addTo T s j).length = 8 := by rw [addTo_len, HL.out.1]
      have hst : addTo T s (j + 1) = (addTo T s j).set j ((addTo T s j).getD j 0 + T.getD j 0) := rfl
      generalize addTo T s j = U at v4 hal hst
      have b15 := H0.out.2.turns td (by simpa using fun h => HL.out.2.2 h.symm)
      have cj := v4.cell j
      have fj := v4.free j
      have sj := b15.cell j
      rw [u32s_get U _ (by omega)] at cj
      rw [u32s_get T _ (by rw [HL.out.2.1]; exact hlt)] at sj
      have HC := Lib.hid (And.intro cj (And.intro fj sj))
      have HS := Lib.hid hst
      have HV := Lib.hid (And.intro v4 td)
      have hji : (j : Int) < 8 := by omega
      clear hst v4 td hal b15 cj fj sj
      go_upto_region 37 with fail
      refine ref_R37 p4 p15 j _ _ wr hlt HC.out.1 HC.out.2.1 HC.out.2.2 (fun _ _ _ _ _ h => HPP.out _ _ _ _ _ h) ?_
      intro y231 y232 y233 y234 y235 y236 y237 y238 w1 hw1
      subst hw1
      have b4 := ((HV.out.1.set j (.int .u32 ((U.getD j 0 + T.getD j 0).toNat : Int))).drew)
      rw [u32s_set, ← HS.out] at b4
      have tt := (HV.out.2.setCell (p := ⟨p4, j, none⟩) (.inl (by simp)) (.int .u32 ((U.getD j 0 + T.getD j 0).toNat : Int))).drew
      have HN := Lib.hid (And.intro b4 tt)
      clear b4 tt
      go_wp2_with fail
      go_roundw
      case rel => exact ⟨j + 1, by omega, by go_num, HN.out⟩
      case measure => (simp [intOf] <;> omega)
    · obtain rfl : j = 8 := by omega
      have z8 : ¬ ((8 : Nat) : Int) < 8 := by omega
      rw [addTo_all T s HL.out.1] at v4
      have HV := Lib.hid (And.intro v4 td)
      clear v4 td
      go_wp2_with fail
      exact HQ.out _ _ _ _ _ _ _ _ _ _ _ _ _ _ HV.out
theorem out_step (st : List UInt32) (z : List UInt8) (j : Nat) : outTo st (4 * (j + 1)) z = ((((outTo st (4 * j) z).set (4 * j) (UInt8.ofNat ((st.getD j 0).toNat / 2 ^ 24))).set (4 * j + 1) (UInt8.ofNat ((st.getD j 0).toNat / 2 ^ 16))).set (4 * j + 2) (UInt8.ofNat ((st.getD j 0).toNat / 2 ^ 8))).set (4 * j + 3) (UInt8.ofNat ((st.getD j 0).toNat / 2 ^ 0)) := by
  show outTo st (4 * j + 1 + 1 + 1 + 1) z = _
  have e0 : 4 * j / 4 = j := by omega
  have e1 : (4 * j + 1) / 4 = j := by omega
  have e2 : (4 * j + 1 + 1) / 4 = j := by omega
  have e3 : (4 * j + 1 + 1 + 1) / 4 = j := by omega
  have r0 : 24 - 8 * (4 * j % 4) = 24 := by omega
  have r1 : 24 - 8 * ((4 * j + 1) % 4) = 16 := by omega
  have r2 : 24 - 8 * ((4 * j + 1 + 1) % 4) = 8 := by omega
  have r3 : 24 - 8 * ((4 * j + 1 + 1 + 1) % 4) = 0 := by omega
  rw [outTo, outTo, outTo, outTo, e0, e1, e2, e3, r0, r1, r2, r3]
theorem Blk.some_cell {w : World} {g : Nat} {cs : List Value} {t : TypeId} (h : Blk w g cs t) (k : Nat) (hk : k < cs.length) : ∃ q, w.cell? ⟨g, k, none⟩ = some q :=
  ⟨cs[k], by rw [h.cell, List.getElem?_eq_getElem hk]⟩
theorem bvs_set (l : List UInt8) (j : Nat) (x : UInt8) : (bvs l).set j (u8v x) = bvs (l.set j x) := by simp [bvs, List.map_set]
set_option maxRecDepth 1000000 in
set_option maxHeartbeats 4000000 in
theorem ref_L14 {Q : Exit → Act → World → Prop} {u0 u1 u2 u3 u5 u6 u7 u8 u9 u10 u11 u12 u13 u14 u15 u16 u17 u18 u19 u20 u23 u24 u25 u26 u27 u28 u29 u30 u31 u32 u33 u34 u35 u36 u37 u38 u39 u40 u41 u42 u43 u44 u45 u46 u47 u48 u49 u50 u51 u52 u53 u54 u55 u56 u57 u58 u59 u60 u61 u62 u63 u64 u65 u66 u67 u68 u69 u70 u71 u72 u73 u74 u75 u76 u77 u78 u79 u80 u81 u82 u83 u84 u85 u86 u87 u88 u89 u90 u91 u92 u93 u94 u95 u96 u97 u98 u99 u100 u101 u102 u103 u104 u105 u106 u107 u108 u109 u110 u111 u112 u113 u114 u115 u116 u117 u118 u119 u120 u121 u122 u123 u124 u125 u126 u127 u128 u129 u130 u131 u132 u133 u134 u135 u136 u137 u138 u139 u140 u141 u142 u143 u144 u145 u146 u147 u148 u149 u150 u151 u152 u153 u154 u155 u156 u157 u158 u159 u160 u161 u162 u163 u164 u165 u166 u167 u168 u169 u170 u171 u172 u173 u174 u175 u176 u177 u178 u179 u180 u181 u182 u183 u184 u185 u186 u187 u188 u189 u190 u191 u192 u193 u194 u195 u196 u197 u198 u199 u200 u201 u202 u203 u204 u205 u206 u207 u208 u209 u210 u211 u212 u213 u214 u215 u216 u217 u218 u219 u220 u221 u222 u223 u224 u225 u226 u227 u228 u229 u230 u231 u232 u233 u234 u235 u236 u237 u238 u239 u240 u241 u242 u243 u244 u245 u246 u247 u248 u249 u250 u251 u252 u253 u254 u255 u256 u257 u258 u259 u260 u261 u262 u263 u264 u265 u266 u267 u268 u269 u270 u271 u272 u273 u274 u275 u276 u277 : Value} (p4 p21 : Nat) (st : List UInt32) (z : List UInt8) (w : World) (hs : st.length = 8) (hz : z.length = 32) (hne : p4 ≠ p21) (hb4 : Blk w p4 (u32s st) 167) (hb21 : Blk w p21 (bvs z) 53)
    (hP : ∀ c (a : Act) (w : World) o v, Q (.panic c) (a.put o v) w → Q (.panic c) a w)
    (hQ : ∀ (x22 x239 x240 x241 x242 x243 x244 x245 x246 x247 x248 x249 x250 x251 x252 x253 x254 x255 x256 x257 x258 x259 x260 x261 x262 x263 x264 x265 x266 x267 x268 x269 x270 x271 x272 x273 x274 x275 x276 : Value)  (w1 : World), (Blk w1 p21 (bvs (outSha st)) 53 ∧ Turns [p21] w w1) → Q .normal ⟨(u0 :: u1 :: u2 :: u3 :: (.pointer (some ⟨p4, 0, none⟩)) :: u5 :: u6 :: u7 :: u8 :: u9 :: u10 :: u11 :: u12 :: u13 :: u14 :: u15 :: u16 :: u17 :: u18 :: u19 :: u20 :: (.pointer (some ⟨p21, 0, none⟩)) :: x22 :: u23 :: u24 :: u25 :: u26 :: u27 :: u28 :: u29 :: u30 :: u31 :: u32 :: u33 :: u34 :: u35 :: u36 :: u37 :: u38 :: u39 :: u40 :: u41 :: u42 :: u43 :: u44 :: u45 :: u46 :: u47 :: u48 :: u49 :: u50 :: u51 :: u52 :: u53 :: u54 :: u55 :: u56 :: u57 :: u58 :: u59 :: u60 :: u61 :: u62 :: u63 :: u64 :: u65 :: u66 :: u67 :: u68 :: u69 :: u70 :: u71 :: u72 :: u73 :: u74 :: u75 :: u76 :: u77 :: u78 :: u79 :: u80 :: u81 :: u82 :: u83 :: u84 :: u85 :: u86 :: u87 :: u88 :: u89 :: u90 :: u91 :: u92 :: u93 :: u94 :: u95 :: u96 :: u97 :: u98 :: u99 :: u100 :: u101 :: u102 :: u103 :: u104 :: u105 :: u106 :: u107 :: u108 :: u109 :: u110 :: u111 :: u112 :: u113 :: u114 :: u115 :: u116 :: u117 :: u118 :: u119 :: u120 :: u121 :: u122 :: u123 :: u124 :: u125 :: u126 :: u127 :: u128 :: u129 :: u130 :: u131 :: u132 :: u133 :: u134 :: u135 :: u136 :: u137 :: u138 :: u139 :: u140 :: u141 :: u142 :: u143 :: u144 :: u145 :: u146 :: u147 :: u148 :: u149 :: u150 :: u151 :: u152 :: u153 :: u154 :: u155 :: u156 :: u157 :: u158 :: u159 :: u160 :: u161 :: u162 :: u163 :: u164 :: u165 :: u166 :: u167 :: u168 :: u169 :: u170 :: u171 :: u172 :: u173 :: u174 :: u175 :: u176 :: u177 :: u178 :: u179 :: u180 :: u181 :: u182 :: u183 :: u184 :: u185 :: u186 :: u187 :: u188 :: u189 :: u190 :: u191 :: u192 :: u193 :: u194 :: u195 :: u196 :: u197 :: u198 :: u199 :: u200 :: u201 :: u202 :: u203 :: u204 :: u205 :: u206 :: u207 :: u208 :: u209 :: u210 :: u211 :: u212 :: u213 :: u214 :: u215 :: u216 :: u217 :: u218 :: u219 :: u220 :: u221 :: u222 :: u223 :: u224 :: u225 :: u226 :: u227 :: u228 :: u229 :: u230 :: u231 :: u232 :: u233 :: u234 :: u235 :: u236 :: u237 :: u238 :: x239 :: x240 :: x241 :: x242 :: x243 :: x244 :: x245 :: x246 :: x247 :: x248 :: x249 :: x250 :: x251 :: x252 :: x253 :: x254 :: x255 :: x256 :: x257 :: x258 :: x259 :: x260 :: x261 :: x262 :: x263 :: x264 :: x265 :: x266 :: x267 :: x268 :: x269 :: x270 :: x271 :: x272 :: x273 :: x274 :: x275 :: x276 :: u277 :: []).toArray, []⟩ w1) :
    Code.wp Tryz.prog ((Tryz.f65.body.bind (codeBlock 14)).getD .skip) Q ⟨(u0 :: u1 :: u2 :: u3 :: (.pointer (some ⟨p4, 0, none⟩)) :: u5 :: u6 :: u7 :: u8 :: u9 :: u10 :: u11 :: u12 :: u13 :: u14 :: u15 :: u16 :: u17 :: u18 :: u19 :: u20 :: (.pointer (some ⟨p21, 0, none⟩)) :: (.int .i64 0) :: u23 :: u24 :: u25 :: u26 :: u27 :: u28 :: u29 :: u30 :: u31 :: u32 :: u33 :: u34 :: u35 :: u36 :: u37 :: u38 :: u39 :: u40 :: u41 :: u42 :: u43 :: u44 :: u45 :: u46 :: u47 :: u48 :: u49 :: u50 :: u51 :: u52 :: u53 :: u54 :: u55 :: u56 :: u57 :: u58 :: u59 :: u60 :: u61 :: u62 :: u63 :: u64 :: u65 :: u66 :: u67 :: u68 :: u69 :: u70 :: u71 :: u72 :: u73 :: u74 :: u75 :: u76 :: u77 :: u78 :: u79 :: u80 :: u81 :: u82 :: u83 :: u84 :: u85 :: u86 :: u87 :: u88 :: u89 :: u90 :: u91 :: u92 :: u93 :: u94 :: u95 :: u96 :: u97 :: u98 :: u99 :: u100 :: u101 :: u102 :: u103 :: u104 :: u105 :: u106 :: u107 :: u108 :: u109 :: u110 :: u111 :: u112 :: u113 :: u114 :: u115 :: u116 :: u117 :: u118 :: u119 :: u120 :: u121 :: u122 :: u123 :: u124 :: u125 :: u126 :: u127 :: u128 :: u129 :: u130 :: u131 :: u132 :: u133 :: u134 :: u135 :: u136 :: u137 :: u138 :: u139 :: u140 :: u141 :: u142 :: u143 :: u144 :: u145 :: u146 :: u147 :: u148 :: u149 :: u150 :: u151 :: u152 :: u153 :: u154 :: u155 :: u156 :: u157 :: u158 :: u159 :: u160 :: u161 :: u162 :: u163 :: u164 :: u165 :: u166 :: u167 :: u168 :: u169 :: u170 :: u171 :: u172 :: u173 :: u174 :: u175 :: u176 :: u177 :: u178 :: u179 :: u180 :: u181 :: u182 :: u183 :: u184 :: u185 :: u186 :: u187 :: u188 :: u189 :: u190 :: u191 :: u192 :: u193 :: u194 :: u195 :: u196 :: u197 :: u198 :: u199 :: u200 :: u201 :: u202 :: u203 :: u204 :: u205 :: u206 :: u207 :: u208 :: u209 :: u210 :: u211 :: u212 :: u213 :: u214 :: u215 :: u216 :: u217 :: u218 :: u219 :: u220 :: u221 :: u222 :: u223 :: u224 :: u225 :: u226 :: u227 :: u228 :: u229 :: u230 :: u231 :: u232 :: u233 :: u234 :: u235 :: u236 :: u237 :: u238 :: u239 :: u240 :: u241 :: u242 :: u243 :: u244 :: u245 :: u246 :: u247 :: u248 :: u249 :: u250 :: u251 :: u252 :: u253 :: u254 :: u255 :: u256 :: u257 :: u258 :: u259 :: u260 :: u261 :: u262 :: u263 :: u264 :: u265 :: u266 :: u267 :: u268 :: u269 :: u270 :: u271 :: u272 :: u273 :: u274 :: u275 :: u276 :: u277 :: []).toArray, []⟩ w := by
  have HQ := Lib.hid hQ
  have HPP := Lib.hid hP
  clear hQ hP
  conv => arg 2; whnf
  have HL := Lib.hid (And.intro hs (And.intro hz hne))
  have H0 := Lib.hid (And.intro hb4 hb21)
  clear hb4 hb21 hs hz hne
  go_wp2_with fail
  go_loopw [22] (fun i wr => ∃ j : Nat, j ≤ 8 ∧ i = .int .i64 j ∧ Blk wr p21 (bvs (outTo st (4 * j) z)) 53 ∧ Turns [p21] w wr) (fun i _ => 8 - (intOf i).toNat)
  case atStart => exact ⟨0, by omega, rfl, H0.out.2, Turns.refl _ _⟩
  case round =>
    obtain ⟨j, hj, rfl, v, td⟩ := hrel
    by_cases hlt : j < 8
    · have hol : (bvs (outTo st (4 * j) z)).length = 32 := by rw [bvs_length, outTo_len]; exact HL.out.2.1
      have hst := out_step st z j
      generalize outTo st (4 * j) z = O at v hol hst
      have b4 := H0.out.1.turns td (by simpa using HL.out.2.2)
      have cj := b4.cell j
      rw [u32s_get st _ (by rw [HL.out.1]; exact hlt)] at cj
      obtain ⟨z0, d0⟩ := v.some_cell (4 * j) (by omega)
      obtain ⟨z1, d1⟩ := v.some_cell (4 * j + 1) (by omega)
      obtain ⟨z2, d2⟩ := v.some_cell (4 * j + 2) (by omega)
      obtain ⟨z3, d3⟩ := v.some_cell (4 * j + 3) (by omega)
      have HC := Lib.hid (And.intro cj (And.intro d0 (And.intro d1 (And.intro d2 d3))))
      have HS := Lib.hid hst
      have HV := Lib.hid (And.intro v td)
      have hji : (j : Int) < 8 := by omega
      clear hst v td hol b4 cj d0 d1 d2 d3
      go_upto_region 42 with fail
      refine ref_R42 p4 p21 j _ _ _ _ _ wr hlt HL.out.2.2 HC.out.1 HC.out.2.1 HC.out.2.2.1 HC.out.2.2.2.1 HC.out.2.2.2.2 (HV.out.1.free _) (HV.out.1.free _) (HV.out.1.free _) (HV.out.1.free _) (fun _ _ _ _ _ h => HPP.out _ _ _ _ _ h) ?_
      intro y243 y244 y245 y246 y247 y248 y249 y250 y251 y252 y253 y254 y255 y256 y257 y258 y259 y260 y261 y262 y263 y264 y265 y266 y267 y268 y269 y270 y271 y272 y273 y274 y275 y276 w1 hw1
      subst hw1
      have V0 : ∀ x : UInt32, Value.int .u8 (IntKind.u8.wrap ((x.toNat : Int) / 16777216)) = u8v (UInt8.ofNat (x.toNat / 2 ^ 24)) := fun x => u8_val x.toNat 24
      have V1 : ∀ x : UInt32, Value.int .u8 (IntKind.u8.wrap ((x.toNat : Int) / 65536)) = u8v (UInt8.ofNat (x.toNat / 2 ^ 16)) := fun x => u8_val x.toNat 16
      have V2 : ∀ x : UInt32, Value.int .u8 (IntKind.u8.wrap ((x.toNat : Int) / 256)) = u8v (UInt8.ofNat (x.toNat / 2 ^ 8)) := fun x => u8_val x.toNat 8
      have V3 : ∀ x : UInt32, Value.int .u8 (IntKind.u8.wrap (x.toNat : Int)) = u8v (UInt8.ofNat (x.toNat / 2 ^ 0)) := fun x => by have := u8_val x.toNat 0; simpa using this
      simp only [V0, V1, V2, V3]
      clear V0 V1 V2 V3
      generalize hv0 : UInt8.ofNat ((st.getD j 0).toNat / 2 ^ 24) = v0 at HS
      generalize hv1 : UInt8.ofNat ((st.getD j 0).toNat / 2 ^ 16) = v1 at HS
      generalize hv2 : UInt8.ofNat ((st.getD j 0).toNat / 2 ^ 8) = v2 at HS
      generalize hv3 : UInt8.ofNat ((st.getD j 0).toNat / 2 ^ 0) = v3 at HS
      have b := ((((HV.out.1.set (4 * j) (u8v v0)).set (4 * j + 1) (u8v v1)).set (4 * j + 2) (u8v v2)).set (4 * j + 3) (u8v v3)).drew
      rw [bvs_set, bvs_set, bvs_set, bvs_set, ← HS.out] at b
      have tt := ((((HV.out.2.setCell (p := ⟨p21, 4 * j, none⟩) (.inl (by simp)) (u8v v0)).setCell (p := ⟨p21, 4 * j + 1, none⟩) (.inl (by simp)) (u8v v1)).setCell (p := ⟨p21, 4 * j + 2, none⟩) (.inl (by simp)) (u8v v2)).setCell (p := ⟨p21, 4 * j + 3, none⟩) (.inl (by simp)) (u8v v3)).drew
      have HN := Lib.hid (And.intro b tt)
      clear b tt hv0 hv1 hv2 hv3
      go_wp2_with fail
      go_roundw
      case rel => exact ⟨j + 1, by omega, by go_num, HN.out⟩
      case measure => (simp [intOf] <;> omega)
    · obtain rfl : j = 8 := by omega
      have z8 : ¬ ((8 : Nat) : Int) < 8 := by omega
      rw [outTo_all st z HL.out.2.1] at v
      have HV := Lib.hid (And.intro v td)
      clear v td
      go_wp2_with fail
      exact HQ.out _ _ _ _ _ _ _ _ _ _ _ _ _ _ _ _ _ _ _ _ _ _ _ _ _ _ _ _ _ _ _ _ _ _ _ _ _ _ _ _ HV.out
end Go.Proofs.YtoahnhphfabajaaGreat
namespace Go.Proofs.YtoahnhphfabajaaGreat
set_option maxRecDepth 10000
open Go.RowKit
set_option linter.unusedVariables false
set_option linter.unusedSimpArgs false
set_option linter.unnecessarySimpa false

theorem word32_take (b : List UInt8) (k : Nat) (hk : k < 16) : word32 (b.take 64) k = word32 b k := by
  unfold word32
  simp only [List.getD_eq_getElem?_getD, List.getElem?_take]
  rw [if_pos (by omega), if_pos (by omega), if_pos (by omega), if_pos (by omega)]
theorem spreadTo_take (b : List UInt8) : ∀ (k : Nat) (l : List UInt32), spreadTo (b.take 64) k l = spreadTo b k l
  | 0, l => rfl
  | k + 1, l => by
    rw [spreadTo, spreadTo, spreadTo_take b k l]
    by_cases h : k < 16
    · rw [if_pos h, if_pos h, word32_take b k h]
    · rw [if_neg h, if_neg h]
theorem addL_comm (s t : List UInt32) : addL s t = addL t s := by
  unfold addL
  apply List.map_congr_left
  intro i _
  rw [UInt32.add_comm]
theorem stP_step (d : List UInt8) (k p : Nat) (hp : p = 64 * k) : stP d (k + 1) = addL (rounds (spread (d.drop p)) 64 (stP d k)) (stP d k) := by
  subst hp
  rw [stP, take1, addL_comm]
  unfold spread
  rw [spreadTo_take]
theorem zero_a8 : (Tryz.prog.info? 167).bind (·.zero) = some (.agg (u32s (zerosW 8)).toArray) := by kernel_rfl
set_option maxRecDepth 1000000 in
set_option maxHeartbeats 4000000 in
theorem ref_L4 {Q : Exit → Act → World → Prop} {u0 u1 u2 u6 u7 u10 u11 u12 u13 u14 u15 u16 u17 u18 u19 u20 u21 u22 u23 u24 u25 u26 u27 u28 u29 u30 u31 u32 u33 u34 u35 u36 u37 u38 u39 u40 u41 u42 u43 u44 u45 u46 u47 u48 u49 u50 u51 u52 u53 u54 u55 u56 u57 u58 u59 u60 u61 u62 u63 u64 u65 u66 u67 u68 u69 u70 u71 u72 u73 u74 u75 u76 u77 u78 u79 u80 u81 u82 u83 u84 u85 u86 u87 u88 u89 u90 u91 u92 u93 u94 u95 u96 u97 u98 u99 u100 u101 u102 u103 u104 u105 u106 u107 u108 u109 u110 u111 u112 u113 u114 u115 u116 u117 u118 u119 u120 u121 u122 u123 u124 u125 u126 u127 u128 u129 u130 u131 u132 u133 u134 u135 u136 u137 u138 u139 u140 u141 u142 u143 u144 u145 u146 u147 u148 u149 u150 u151 u152 u153 u154 u155 u156 u157 u158 u159 u160 u161 u162 u163 u164 u165 u166 u167 u168 u169 u170 u171 u172 u173 u174 u175 u176 u177 u178 u179 u180 u181 u182 u183 u184 u185 u186 u187 u188 u189 u190 u191 u192 u193 u194 u195 u196 u197 u198 u199 u200 u201 u202 u203 u204 u205 u206 u207 u208 u209 u210 u211 u212 u213 u214 u215 u216 u217 u218 u219 u220 u221 u222 u223 u224 u225 u226 u227 u228 u229 u230 u231 u232 u233 u234 u235 u236 u237 u238 u239 u240 u241 u242 u243 u244 u245 u246 u247 u248 u249 u250 u251 u252 u253 u254 u255 u256 u257 u258 u259 u260 u261 u262 u263 u264 u265 u266 u267 u268 u269 u270 u271 u272 u273 u274 u275 u276 u277 : Value} (p3 p4 p8 n c bb ob : Nat) (d : List UInt8) (l0 : List UInt32) (w : World) (hn : n ≤ 2000000000) (hnd : d.length = n) (hnm : n % 64 = 0) (hl0 : l0.length = 64) (hb4' : bb ≠ p4) (hb8' : bb ≠ p8) (h34 : p3 ≠ p4) (h38 : p3 ≠ p8) (h48 : p4 ≠ p8) (hbl : bb < w.heap.size)
    (hb3 : Blk w p3 (u32s shaK) 165) (hb4 : Blk w p4 (u32s (stP d 0)) 167) (hb8 : Blk w p8 (u32s l0) 165)
    (hby : ∀ j, j < n → w.cell? ⟨bb, ob + j, none⟩ = some (.int .u8 ((d.getD j 0).toNat : Int)))
    (hP : ∀ c (a : Act) (w : World) o v, Q (.panic c) (a.put o v) w → Q (.panic c) a w)
    (hQ : ∀ (x9 x10 x11 x12 x13 x14 x15 x16 x17 x18 x19 x20 x55 x56 x57 x58 x59 x60 x61 x62 x63 x64 x65 x66 x67 x68 x69 x70 x71 x72 x73 x74 x75 x76 x77 x78 x79 x80 x81 x82 x83 x84 x85 x86 x87 x88 x89 x90 x91 x92 x93 x94 x95 x96 x97 x98 x99 x100 x101 x102 x103 x104 x105 x106 x107 x108 x109 x110 x111 x112 x113 x114 x115 x116 x117 x118 x119 x120 x121 x122 x123 x124 x125 x126 x127 x128 x129 x130 x131 x132 x133 x134 x135 x136 x137 x138 x139 x140 x141 x142 x143 x144 x145 x146 x147 x148 x149 x150 x151 x152 x153 x154 x155 x156 x157 x158 x159 x160 x161 x162 x163 x164 x165 x166 x167 x168 x169 x170 x171 x172 x173 x174 x175 x176 x177 x178 x179 x180 x181 x182 x183 x184 x185 x186 x187 x188 x189 x190 x191 x192 x193 x194 x195 x196 x197 x198 x199 x200 x201 x202 x203 x204 x205 x206 x207 x208 x209 x210 x211 x212 x213 x214 x215 x216 x217 x218 x219 x220 x221 x222 x223 x224 x225 x226 x227 x228 x229 x230 x231 x232 x233 x234 x235 x236 x237 x238 : Value)  (w1 : World), (Blk w1 p4 (u32s (stP d (n / 64))) 167 ∧ Turns [p4, p8] w w1) → Q .normal ⟨(u0 :: u1 :: u2 :: (.pointer (some ⟨p3, 0, none⟩)) :: (.pointer (some ⟨p4, 0, none⟩)) :: (.slice (some ⟨bb, ob, none⟩) n c) :: u6 :: u7 :: (.pointer (some ⟨p8, 0, none⟩)) :: x9 :: x10 :: x11 :: x12 :: x13 :: x14 :: x15 :: x16 :: x17 :: x18 :: x19 :: x20 :: u21 :: u22 :: u23 :: u24 :: u25 :: u26 :: u27 :: u28 :: u29 :: u30 :: u31 :: u32 :: u33 :: u34 :: u35 :: u36 :: u37 :: u38 :: u39 :: u40 :: u41 :: u42 :: u43 :: u44 :: u45 :: u46 :: u47 :: u48 :: u49 :: u50 :: u51 :: u52 :: u53 :: u54 :: x55 :: x56 :: x57 :: x58 :: x59 :: x60 :: x61 :: x62 :: x63 :: x64 :: x65 :: x66 :: x67 :: x68 :: x69 :: x70 :: x71 :: x72 :: x73 :: x74 :: x75 :: x76 :: x77 :: x78 :: x79 :: x80 :: x81 :: x82 :: x83 :: x84 :: x85 :: x86 :: x87 :: x88 :: x89 :: x90 :: x91 :: x92 :: x93 :: x94 :: x95 :: x96 :: x97 :: x98 :: x99 :: x100 :: x101 :: x102 :: x103 :: x104 :: x105 :: x106 :: x107 :: x108 :: x109 :: x110 :: x111 :: x112 :: x113 :: x114 :: x115 :: x116 :: x117 :: x118 :: x119 :: x120 :: x121 :: x122 :: x123 :: x124 :: x125 :: x126 :: x127 :: x128 :: x129 :: x130 :: x131 :: x132 :: x133 :: x134 :: x135 :: x136 :: x137 :: x138 :: x139 :: x140 :: x141 :: x142 :: x143 :: x144 :: x145 :: x146 :: x147 :: x148 :: x149 :: x150 :: x151 :: x152 :: x153 :: x154 :: x155 :: x156 :: x157 :: x158 :: x159 :: x160 :: x161 :: x162 :: x163 :: x164 :: x165 :: x166 :: x167 :: x168 :: x169 :: x170 :: x171 :: x172 :: x173 :: x174 :: x175 :: x176 :: x177 :: x178 :: x179 :: x180 :: x181 :: x182 :: x183 :: x184 :: x185 :: x186 :: x187 :: x188 :: x189 :: x190 :: x191 :: x192 :: x193 :: x194 :: x195 :: x196 :: x197 :: x198 :: x199 :: x200 :: x201 :: x202 :: x203 :: x204 :: x205 :: x206 :: x207 :: x208 :: x209 :: x210 :: x211 :: x212 :: x213 :: x214 :: x215 :: x216 :: x217 :: x218 :: x219 :: x220 :: x221 :: x222 :: x223 :: x224 :: x225 :: x226 :: x227 :: x228 :: x229 :: x230 :: x231 :: x232 :: x233 :: x234 :: x235 :: x236 :: x237 :: x238 :: u239 :: u240 :: u241 :: u242 :: u243 :: u244 :: u245 :: u246 :: u247 :: u248 :: u249 :: u250 :: u251 :: u252 :: u253 :: u254 :: u255 :: u256 :: u257 :: u258 :: u259 :: u260 :: u261 :: u262 :: u263 :: u264 :: u265 :: u266 :: u267 :: u268 :: u269 :: u270 :: u271 :: u272 :: u273 :: u274 :: u275 :: u276 :: u277 :: []).toArray, []⟩ w1) :
    Code.wp Tryz.prog ((Tryz.f65.body.bind (codeBlock 4)).getD .skip) Q ⟨(u0 :: u1 :: u2 :: (.pointer (some ⟨p3, 0, none⟩)) :: (.pointer (some ⟨p4, 0, none⟩)) :: (.slice (some ⟨bb, ob, none⟩) n c) :: u6 :: u7 :: (.pointer (some ⟨p8, 0, none⟩)) :: (.int .i64 0) :: u10 :: u11 :: u12 :: u13 :: u14 :: u15 :: u16 :: u17 :: u18 :: u19 :: u20 :: u21 :: u22 :: u23 :: u24 :: u25 :: u26 :: u27 :: u28 :: u29 :: u30 :: u31 :: u32 :: u33 :: u34 :: u35 :: u36 :: u37 :: u38 :: u39 :: u40 :: u41 :: u42 :: u43 :: u44 :: u45 :: u46 :: u47 :: u48 :: u49 :: u50 :: u51 :: u52 :: u53 :: u54 :: u55 :: u56 :: u57 :: u58 :: u59 :: u60 :: u61 :: u62 :: u63 :: u64 :: u65 :: u66 :: u67 :: u68 :: u69 :: u70 :: u71 :: u72 :: u73 :: u74 :: u75 :: u76 :: u77 :: u78 :: u79 :: u80 :: u81 :: u82 :: u83 :: u84 :: u85 :: u86 :: u87 :: u88 :: u89 :: u90 :: u91 :: u92 :: u93 :: u94 :: u95 :: u96 :: u97 :: u98 :: u99 :: u100 :: u101 :: u102 :: u103 :: u104 :: u105 :: u106 :: u107 :: u108 :: u109 :: u110 :: u111 :: u112 :: u113 :: u114 :: u115 :: u116 :: u117 :: u118 :: u119 :: u120 :: u121 :: u122 :: u123 :: u124 :: u125 :: u126 :: u127 :: u128 :: u129 :: u130 :: u131 :: u132 :: u133 :: u134 :: u135 :: u136 :: u137 :: u138 :: u139 :: u140 :: u141 :: u142 :: u143 :: u144 :: u145 :: u146 :: u147 :: u148 :: u149 :: u150 :: u151 :: u152 :: u153 :: u154 :: u155 :: u156 :: u157 :: u158 :: u159 :: u160 :: u161 :: u162 :: u163 :: u164 :: u165 :: u166 :: u167 :: u168 :: u169 :: u170 :: u171 :: u172 :: u173 :: u174 :: u175 :: u176 :: u177 :: u178 :: u179 :: u180 :: u181 :: u182 :: u183 :: u184 :: u185 :: u186 :: u187 :: u188 :: u189 :: u190 :: u191 :: u192 :: u193 :: u194 :: u195 :: u196 :: u197 :: u198 :: u199 :: u200 :: u201 :: u202 :: u203 :: u204 :: u205 :: u206 :: u207 :: u208 :: u209 :: u210 :: u211 :: u212 :: u213 :: u214 :: u215 :: u216 :: u217 :: u218 :: u219 :: u220 :: u221 :: u222 :: u223 :: u224 :: u225 :: u226 :: u227 :: u228 :: u229 :: u230 :: u231 :: u232 :: u233 :: u234 :: u235 :: u236 :: u237 :: u238 :: u239 :: u240 :: u241 :: u242 :: u243 :: u244 :: u245 :: u246 :: u247 :: u248 :: u249 :: u250 :: u251 :: u252 :: u253 :: u254 :: u255 :: u256 :: u257 :: u258 :: u259 :: u260 :: u261 :: u262 :: u263 :: u264 :: u265 :: u266 :: u267 :: u268 :: u269 :: u270 :: u271 :: u272 :: u273 :: u274 :: u275 :: u276 :: u277 :: []).toArray, []⟩ w := by
  have HQ := Lib.hid hQ
  have HPP := Lib.hid hP
  clear hQ hP
  conv => arg 2; whnf
  have HL := Lib.hid (And.intro (And.intro hnd hnm) (And.intro hl0 (And.intro hb4' (And.intro hb8' (And.intro h34 (And.intro h38 h48))))))
  have HBY := Lib.hid hby
  have H0 := Lib.hid (And.intro hb3 (And.intro hb4 hb8))
  have HLT := Lib.hid (And.intro hb3.lt (And.intro hb4.lt (And.intro hb8.lt hbl)))
  have hn1 : (n : Int) ≤ 2000000000 := by omega
  have HNN := Lib.hid hn
  clear hnd hnm hl0 hb4' hb8' h34 h38 h48 hb3 hb4 hb8 hby hbl hn
  have hz8 := zero_a8
  have hzl := zerosW_len 8
  generalize hzz : u32s (zerosW 8) = zz at hz8 hzl
  have HZL := Lib.hid hzl
  clear hzz hzl
  go_wp2_with fail
  go_loopw [9] (fun i wr => ∃ (k p : Nat) (l : List UInt32), p = 64 * k ∧ p ≤ n ∧ l.length = 64 ∧ i = .int .i64 p ∧ Blk wr p4 (u32s (stP d k)) 167 ∧ Blk wr p8 (u32s l) 165 ∧ Turns [p4, p8] w wr) (fun i _ => n - (intOf i).toNat)
  case atStart => exact ⟨0, 0, l0, by omega, by omega, HL.out.2.1, rfl, H0.out.2.1, H0.out.2.2, Turns.refl _ _⟩
  case round =>
    obtain ⟨k, p, l, hpk, hpn, hl, rfl, v4, v8, td⟩ := hrel
    have HPK := Lib.hid hpk
    have b3 := H0.out.1.turns td (by simpa using ⟨HL.out.2.2.2.2.1, HL.out.2.2.2.2.2.1⟩)
    have hts := td.size
    have hlt := HLT.out
    have hln := HL.out
    by_cases hpl : p < n
    · have hp64 : p + 64 ≤ n := by omega
      have hpi : (p : Int) < (n : Int) := by omega
      have by1 := fun j hj => cellL td (HBY.out j hj) (by simpa using ⟨hln.2.2.1, hln.2.2.2.1⟩)
      have hsl := stP_len d k
      have hst := stP_step d k p hpk
      have L6 := Lib.hid (And.intro hl (And.intro v8 by1))
      have HV := Lib.hid (And.intro v4 (And.intro b3 td))
      have HS := Lib.hid (And.intro hsl hst)
      have h1s := u32s_one (stP d k)
      have hul : (u32s (stP d k)).length = 8 := by rw [u32s_length, hsl]
      have HP64 := Lib.hid hp64
      have HH1 := Lib.hid (And.intro hts (And.intro hlt hln))
      clear hl v8 by1 v4 b3 td hsl hst hpk hts hlt hln hp64 hpl hpn
      go_upto_block 6 with fail
      refine ref_L6 p8 p n c bb ob d l wr HP64.out HNN.out L6.out.1 HL.out.2.2.2.1 L6.out.2.1 L6.out.2.2 (fun _ _ _ _ _ h => HPP.out _ _ _ _ _ h) ?_
      intro y10 y11 y61 y62 y63 y64 y65 y66 y67 y68 y69 y70 y71 y72 y73 y74 y75 y76 y77 y78 y79 y80 y81 y82 y83 y84 y85 y86 y87 y88 y89 y90 y91 y92 y93 y94 y95 y96 y97 y98 y99 w1 ⟨b8, t8⟩
      have HA := Lib.hid (And.intro b8 t8)
      clear b8 t8
      go_upto_block 8 with fail
      refine ref_L8 p8 (d.drop p) l w1 L6.out.1 HA.out.1 (fun _ _ _ _ _ h => HPP.out _ _ _ _ _ h) ?_
      intro y12 y13 y14 y100 y101 y102 y103 y104 y105 y106 y107 y108 y109 y110 y111 y112 y113 y114 y115 y116 y117 y118 y119 y120 y121 y122 y123 y124 y125 y126 y127 y128 y129 y130 y131 y132 y133 y134 y135 y136 y137 y138 y139 y140 w2 ⟨b8, t8⟩
      rw [spread_any _ l L6.out.1] at b8
      have hsp := spread_len (d.drop p)
      have hbl := b8.lt
      have t02 : Turns [p8] wr w2 := HA.out.2.trans t8 (by simp)
      have v4 := HV.out.1.turns t02 (by simpa using HL.out.2.2.2.2.2.2)
      have v3 := HV.out.2.1.turns t02 (by simpa using HL.out.2.2.2.2.2.1)
      have r4 := v4.range 0 8
      rw [List.drop_zero, List.take_of_length_le (by omega)] at r4
      have b15 := Blk.new w2 zz 167
      have ta : Turns [] w2 (w2.alloc (.cells zz.toArray 167)) := (Turns.refl _ _).alloc _
      have l4 := v4.lt
      have l3 := v3.lt
      have HB := Lib.hid (And.intro b8 (And.intro v4 (And.intro v3 (And.intro t02 (And.intro r4 (And.intro b15 ta))))))
      obtain ⟨us, hus⟩ : ∃ us, us = u32s (stP d k) := ⟨_, rfl⟩
      rw [← hus] at h1s hul
      have HUS := Lib.hid hus
      rw [← hus] at HB
      have Q_1 := Lib.hid h1s
      have Q_l := Lib.hid (show zz.length = us.length by rw [HZL.out, hul])
      have Q_sz := Lib.hid (show (Tryz.prog.info? 167).map (·.size) = some us.length by rw [size_a8, hul])
      have HX := Lib.hid (And.intro hsp (And.intro l3 (And.intro l4 hbl)))
      clear b8 t8 t02 v4 v3 r4 b15 ta l4 l3 hsp hbl hus h1s hul
      go_upto_block 10 with (first
        | (refine wpList_load_blk rfl 167 (.tmp 4) rfl p4 (by kernel_rfl) us _ _ HB.out.2.1 Tryz.underlying167 rfl Q_sz.out ?_)
        | (refine wpList_alloc_arr rfl 167 rfl zz.toArray hz8 ?_)
        | (refine wpList_store_blk rfl 167 (.tmp 15) (.tmp 141) rfl w2.heap.size (by kernel_rfl) us zz 167 (by kernel_rfl) HB.out.2.2.2.2.2.1 Q_l.out Q_sz.out Q_1.out (fun y1 hb1 ht1 hs1 => ?_); have HQ' := Lib.hid (And.intro hb1 ht1); clear hb1 ht1 hs1)
        | fail)
      try simp only [Act.put, List.setIfInBounds_toArray, List.set_cons_succ, List.set_cons_zero]
      obtain ⟨p15, hp15⟩ : ∃ q, q = w2.heap.size := ⟨_, rfl⟩
      rw [← hp15] at HQ' HX ⊢
      have ty : Turns [] w2 y1 := HB.out.2.2.2.2.2.2.trans HQ'.out.2 (by intro x hx; simp at hx; exact .inr (by omega))
      have z8 := HB.out.1.turns ty (by simp)
      have z4 := HB.out.2.1.turns ty (by simp)
      have z3 := HB.out.2.2.1.turns ty (by simp)
      have z15 := HQ'.out.1
      rw [HUS.out] at z4 z15
      have n3 : p3 ≠ p15 := by have := HX.out.2.1; omega
      have n4 : p4 ≠ p15 := by have := HX.out.2.2.1; omega
      have n8 : p8 ≠ p15 := by have := HX.out.2.2.2; omega
      have hw15 : w.heap.size ≤ p15 := by
        have h1 := HB.out.2.2.2.1.size
        have h2 := HH1.out.1
        omega
      have HC := Lib.hid (And.intro z8 (And.intro z4 (And.intro z3 (And.intro z15 ty))))
      have HNE := Lib.hid (And.intro n3 (And.intro n4 (And.intro n8 hw15)))
      clear ty z8 z4 z3 z15 n3 n4 n8 hp15 hw15
      refine ref_L10 p3 p8 p15 (spread (d.drop p)) (stP d k) y1 HS.out.1 HX.out.1 HNE.out.1 HNE.out.2.2.1 HC.out.2.2.1 HC.out.1 HC.out.2.2.2.1 (fun _ _ _ _ _ h => HPP.out _ _ _ _ _ h) ?_
      intro y16 y17 y18 y19 y142 y143 y144 y145 y146 y147 y148 y149 y150 y151 y152 y153 y154 y155 y156 y157 y158 y159 y160 y161 y162 y163 y164 y165 y166 y167 y168 y169 y170 y171 y172 y173 y174 y175 y176 y177 y178 y179 y180 y181 y182 y183 y184 y185 y186 y187 y188 y189 y190 y191 y192 y193 y194 y195 y196 y197 y198 y199 y200 y201 y202 y203 y204 y205 y206 y207 y208 y209 y210 y211 y212 y213 y214 y215 y216 y217 y218 y219 y220 y221 y222 y223 y224 y225 y226 w3 ⟨b15, t15⟩
      have HD := Lib.hid (And.intro b15 t15)
      have z4 := HC.out.2.1.turns t15 (by simpa using HNE.out.2.1)
      have z8 := HC.out.1.turns t15 (by simpa using HNE.out.2.2.1)
      have HE := Lib.hid (And.intro z4 z8)
      clear b15 t15 z4 z8
      go_upto_block 12 with fail
      refine ref_L12 p4 p15 (stP d k) (rounds (spread (d.drop p)) 64 (stP d k)) w3 HS.out.1 (rounds_len _ _ HS.out.1 _) HNE.out.2.1 HE.out.1 HD.out.1 (fun _ _ _ _ _ h => HPP.out _ _ _ _ _ h) ?_
      intro y20 y227 y228 y229 y230 y231 y232 y233 y234 y235 y236 y237 y238 w4 ⟨b4, t4⟩
      rw [← HS.out.2] at b4
      have z8 := HE.out.2.turns t4 (by simpa using fun h => HL.out.2.2.2.2.2.2 h.symm)
      have tt : Turns [p4, p8] w w4 := ((((HV.out.2.2.trans HB.out.2.2.2.1 (by simp)).trans HC.out.2.2.2.2 (by simp)).trans HD.out.2 (by intro x hx; simp at hx; subst hx; exact .inr HNE.out.2.2.2)).trans t4 (by simp))
      have HF := Lib.hid (And.intro b4 (And.intro z8 tt))
      clear b4 t4 z8 tt
      go_wp2_with fail
      have hp64 := HP64.out
      have hpk := HPK.out
      go_roundw
      case rel => exact ⟨k + 1, p + 64, spread (d.drop p), by omega, by omega, HX.out.1, by go_num, HF.out⟩
      case measure => (simp [intOf] <;> omega)
    · have hpe : p = n := by omega
      have hk : k = n / 64 := by omega
      rw [hk] at v4
      have HV := Lib.hid (And.intro v4 td)
      have hpi : ¬ (p : Int) < (n : Int) := by omega
      clear v4 v8 td b3 hl hpk hpn hts hlt hln hpl hpe hk
      go_wp2_with fail
      exact HQ.out _ _ _ _ _ _ _ _ _ _ _ _ _ _ _ _ _ _ _ _ _ _ _ _ _ _ _ _ _ _ _ _ _ _ _ _ _ _ _ _ _ _ _ _ _ _ _ _ _ _ _ _ _ _ _ _ _ _ _ _ _ _ _ _ _ _ _ _ _ _ _ _ _ _ _ _ _ _ _ _ _ _ _ _ _ _ _ _ _ _ _ _ _ _ _ _ _ _ _ _ _ _ _ _ _ _ _ _ _ _ _ _ _ _ _ _ _ _ _ _ _ _ _ _ _ _ _ _ _ _ _ _ _ _ _ _ _ _ _ _ _ _ _ _ _ _ _ _ _ _ _ _ _ _ _ _ _ _ _ _ _ _ _ _ _ _ _ _ _ _ _ _ _ _ _ _ _ _ _ _ _ _ _ _ _ _ _ _ _ _ _ _ _ _ _ _ _ HV.out
end Go.Proofs.YtoahnhphfabajaaGreat
namespace Go.Proofs.YtoahnhphfabajaaGreat
set_option maxRecDepth 10000
open Go.RowKit
set_option linter.unusedVariables false
set_option linter.unusedSimpArgs false
set_option linter.unnecessarySimpa false

set_option maxRecDepth 1000000 in
set_option maxHeartbeats 4000000 in
theorem refSum_any (A : Option Addr) (n c B : Nat) (b : List UInt8) (w : World) (h : Sl w B 1 (.slice A n c) n (bvs b)) (hB : B ≤ w.heap.size) (hm : b.length ≤ 1000000000) :
    Calls Tryz.prog 65 #[.slice A n c] w fun e w' => e = .returned (.agg (bvs (sha b)).toArray) ∧ Turns [] w w' := by
  have hbn := h.1
  rw [bvs_length, Nat.mul_one] at hbn
  subst hbn
  obtain ⟨res, hres⟩ : ∃ r, r = bvs (sha b) := ⟨_, rfl⟩
  rw [← hres]
  have HRES := Lib.hid hres
  have hz32 := zero_hash
  have hzl32 := zeros32_len
  have hz64 := zero_w64
  have hzl64 := zerosW_len 64
  have hz8 := zero_a8
  have hzl8 := zerosW_len 8
  have b2 := Blk.new w (bvs (zeros 32)) 53
  have t1 := (Turns.refl [] w).alloc (.cells (bvs (zeros 32)).toArray 53)
  generalize hzz : bvs (zeros 32) = zz at hz32 hzl32 b2 t1
  generalize hzz64 : u32s (zerosW 64) = z64 at hz64 hzl64
  generalize hzz8 : u32s (zerosW 8) = z8 at hz8 hzl8
  obtain ⟨w1, hw1⟩ : ∃ x, x = w.alloc (.cells zz.toArray 53) := ⟨_, rfl⟩
  rw [← hw1] at b2 t1
  have HW1 := Lib.hid hw1
  have HZ := Lib.hid (And.intro hzz (And.intro hzz64 hzz8))
  have HZL := Lib.hid (And.intro hzl32 (And.intro hzl64 hzl8))
  have H0 := Lib.hid (And.intro h (And.intro hB (And.intro b2 t1)))
  have HM := Lib.hid hm
  have WA := Lib.hid (words_any w1)
  have hp2 := b2.lt
  have HP2 := Lib.hid hp2
  clear hres hzz hzz64 hzz8 hw1 h hB b2 t1 hzl32 hzl64 hzl8 hm hp2
  go_enter Tryz.func65, Tryz.ntmps65
  go_wp2_with (first
    | (refine wpList_alloc_arr (o := ⟨some 2, _, _, _, _, _⟩) rfl 53 rfl zz.toArray hz32 ?_)
    | fail)
  rw [← HW1.out]
  refine WA.out.mono ?_
  rintro e x1 ⟨rfl, t1⟩
  have hk1 := u32s_one shaK
  have hkl := shaK_len
  generalize hks : u32s shaK = ks at hk1 hkl
  have HKS := Lib.hid hks
  have b3 := Blk.new x1 z64 165
  have ta : Turns [] x1 (x1.alloc (.cells z64.toArray 165)) := (Turns.refl _ _).alloc _
  have HA := Lib.hid (And.intro b3 (And.intro t1 ta))
  have Q_l := Lib.hid (show z64.length = ks.length by rw [HZL.out.2.1, hkl])
  have Q_sz := Lib.hid (show (Tryz.prog.info? 165).map (·.size) = some ks.length by rw [size_w64, hkl])
  have Q_1 := Lib.hid hk1
  clear b3 t1 ta WA hk1 hkl hks
  go_upto_region 2 with (first
    | (refine wpList_alloc_arr (o := ⟨some 3, _, _, _, _, _⟩) rfl 165 rfl z64.toArray hz64 ?_)
    | (refine wpList_store_blk rfl 165 (.tmp 3) (.tmp 23) rfl x1.heap.size (by kernel_rfl) ks z64 165 (by kernel_rfl) HA.out.1 Q_l.out Q_sz.out Q_1.out (fun y1 hb1 ht1 hs1 => ?_); have HQ := Lib.hid (And.intro hb1 ht1); clear hb1 ht1 hs1)
    | fail)
  try simp only [Act.put, List.setIfInBounds_toArray, List.set_cons_succ, List.set_cons_zero]
  obtain ⟨p3, hp3⟩ : ∃ q, q = x1.heap.size := ⟨_, rfl⟩
  rw [← hp3] at HQ ⊢
  have T1 : Turns [] w1 y1 := (HA.out.2.1.trans HA.out.2.2 (by simp)).trans HQ.out.2 (by intro x hx; simp at hx; have := HA.out.2.1.size; exact .inr (by omega))
  have b3 := HQ.out.1
  have h31 : w1.heap.size ≤ p3 := by have := HA.out.2.1.size; omega
  have H1 := Lib.hid (And.intro T1 (And.intro b3 h31))
  -- the sum on its way
  have hk1 := u32s_one shaH
  have hkl := shaH_len
  have hlit : (u32s shaH).toArray = #[.int .u32 1779033703, .int .u32 3144134277, .int .u32 1013904242, .int .u32 2773480762, .int .u32 1359893119, .int .u32 2600822924, .int .u32 528734635, .int .u32 1541459225] := rfl
  generalize hks : u32s shaH = hs at hk1 hkl hlit
  have HHS := Lib.hid hks
  have HLIT := Lib.hid hlit
  have b4 := Blk.new y1 z8 167
  have ta : Turns [] y1 (y1.alloc (.cells z8.toArray 167)) := (Turns.refl _ _).alloc _
  have HB := Lib.hid (And.intro b4 ta)
  have P_l := Lib.hid (show z8.length = hs.length by rw [HZL.out.2.2, hkl])
  have P_sz := Lib.hid (show (Tryz.prog.info? 167).map (·.size) = some hs.length by rw [size_a8, hkl])
  have P_1 := Lib.hid hk1
  clear T1 b3 h31 hk1 hkl hlit hks b4 ta HQ HA Q_l Q_sz Q_1 hp3
  go_upto_region 3 with (first
    | (refine wpList_alloc_arr (o := ⟨some 4, _, _, _, _, _⟩) rfl 167 rfl z8.toArray hz8 ?_)
    | (refine wpList_store_blk rfl 167 (.tmp 4) (.tmp 24) rfl y1.heap.size (by kernel_rfl) hs z8 167 (by rw [HLIT.out]; kernel_rfl) HB.out.1 P_l.out P_sz.out P_1.out (fun y2 hb1 ht1 hs1 => ?_); have HQ := Lib.hid (And.intro hb1 ht1); clear hb1 ht1 hs1)
    | fail)
  try simp only [Act.put, List.setIfInBounds_toArray, List.set_cons_succ, List.set_cons_zero]
  obtain ⟨p4, hp4⟩ : ∃ q, q = y1.heap.size := ⟨_, rfl⟩
  rw [← hp4] at HQ ⊢
  have t2 : Turns [] y1 y2 := HB.out.2.trans HQ.out.2 (by intro x hx; simp at hx; exact .inr (by omega))
  have T2 : Turns [] w1 y2 := H1.out.1.trans t2 (by simp)
  have b3 := H1.out.2.1.turns t2 (by simp)
  have b4 := HQ.out.1
  have h34 : p3 < p4 := by have := H1.out.2.1.lt; omega
  have h4y : p4 < y2.heap.size := b4.lt
  have slb := (H0.out.2.2.2.trans T2 (by simp)).slice H0.out.1 H0.out.2.1 (by simp)
  obtain ⟨v5, w5, hr3, own5, t5⟩ := run_fresh_copy y2 slb (Nat.le_trans H0.out.2.1 (H0.out.2.2.2.trans T2 (by simp)).size) (by have := HM.out; omega) 129
  have m5 : Mine y2 w5 v5 b := ⟨own5, t5⟩
  obtain ⟨A5, c5, rfl, _⟩ := m5.len
  obtain ⟨v6, w6, hr4, m6⟩ := mine_push' m5 (by have := HM.out; omega) 128 (.int .u8 128) rfl 129
  obtain ⟨A6, c6, rfl, _⟩ := m6.len
  rw [show (b ++ [(128 : UInt8)]).length = b.length + 1 from by simp] at hr4 m6
  have m6' : Mine y2 w6 (.slice A6 (b.length + 1) c6) (padK b 0) := by simpa [padK] using m6
  have H2 := Lib.hid (And.intro T2 (And.intro b3 (And.intro b4 (And.intro h34 h4y))))
  have M6 := Lib.hid m6'
  clear t2 T2 b3 b4 h34 h4y slb own5 t5 m5 m6 m6' hp4 HQ HB P_l P_sz P_1
  go_upto_block 0 with (first
    | (at_builtin; refine wpList_append_at rfl (.tmp 25) (.tmp 26) rfl hr3 rfl rfl ?_)
    | (at_builtin; refine wpList_append_at rfl (.tmp 28) (.tmp 29) rfl hr4 rfl rfl ?_)
    | fail)
  clear hr3 hr4
  refine ref_L0 y2 A6 c6 b w6 HM.out M6.out (fun _ _ _ o _ h => by cases o <;> exact h) ?_
  intro y31 y32 y33 y34 y35 y36 y37 A7 c7 w7 m7
  have HM7 := Lib.hid m7
  have hb8 : IntKind.u64.wrap (b.length : Int) = (b.length : Int) := by have := HM.out; rw [IntKind.wrap_u64]; omega
  have hb88 : IntKind.u64.wrap ((b.length : Int) * 8) = (b.length : Int) * 8 := by have := HM.out; rw [IntKind.wrap_u64]; omega
  clear m7
  go_upto_block 2 with fail
  refine ref_L2 y2 A7 (b.length + 1 + padZ b.length) c7 b.length (padK b (padZ b.length)) w7 (padK_len _ _) (by have := HM.out; have := padZ_lt b.length; omega) HM.out HM7.out (fun _ _ _ o _ h => by cases o <;> exact h) ?_
  intro y7 y42 y43 y44 y45 y46 y47 y48 y49 y50 y51 y52 y53 y54 A8 c8 w8 m8
  have hpl := padded_len b
  have hst := sha_st b
  have hpn : (padded b).length = b.length + 1 + padZ b.length + 8 := by rw [padded_eq, List.length_append, padK_len, beTo_len]
  have hpz := padZ_lt b.length
  rw [← padded_eq] at m8
  have hmm := HM.out
  obtain ⟨N, hN⟩ : ∃ N, N = b.length + 1 + padZ b.length + 8 := ⟨_, rfl⟩
  rw [← hN] at hpn m8 ⊢
  obtain ⟨d, hd⟩ : ∃ d, d = padded b := ⟨_, rfl⟩
  rw [← hd] at hpl hst hpn m8
  obtain ⟨g, c9, hsv, hc9, _, hgy, hg8, hcell⟩ := own_cells m8.own (by omega)
  injection hsv with e1 e2 e3
  subst e1 e3
  clear e2
  have T8 : Turns [] w1 w8 := H2.out.1.trans m8.turns (by simp)
  have b3 := H2.out.2.1.turns m8.turns (by simp)
  have b4 := H2.out.2.2.1.turns m8.turns (by simp)
  have b8 := Blk.new w8 z64 165
  obtain ⟨w9, hw9⟩ : ∃ x, x = w8.alloc (.cells z64.toArray 165) := ⟨_, rfl⟩
  have t9 : Turns [] w8 w9 := by rw [hw9]; exact (Turns.refl _ _).alloc _
  rw [← hw9] at b8
  have hNd : d.length = N := hpn
  have hby : ∀ j, j < N → w9.cell? ⟨g, 0 + j, none⟩ = some (.int .u8 ((d.getD j 0).toNat : Int)) := by
    intro j hj
    rw [Nat.zero_add]
    refine cellL t9 (hcell j _ ?_).1 (by simp)
    rw [List.getD_eq_getElem?_getD]
    simp [bvs, u8v, List.getElem?_eq_getElem (show j < d.length by omega)]
  have HX := Lib.hid hw9
  have HC := Lib.hid (And.intro hby (And.intro (b3.turns t9 (by simp)) (And.intro (b4.turns t9 (by simp)) b8)))
  have l3 := b3.lt
  have l4 := b4.lt
  obtain ⟨p8, hp8⟩ : ∃ q, q = w8.heap.size := ⟨_, rfl⟩
  rw [← hp8] at HC
  have HN := Lib.hid (show (N ≤ 2000000000 ∧ N % 64 = 0) ∧ (g ≠ p4 ∧ g ≠ p8 ∧ p3 ≠ p4 ∧ p3 ≠ p8 ∧ p4 ≠ p8 ∧ g < w9.heap.size) by
    have h4 := H2.out.2.2.2.2
    have h3 := H2.out.2.2.2.1
    have h9 := t9.size
    have hNm : N % 64 = 0 := by rw [← hNd]; exact hpl
    exact ⟨⟨by omega, hNm⟩, by omega, by omega, by omega, by omega, by omega, by omega⟩)
  have HST := Lib.hid (And.intro hNd hst)
  have HP8 := Lib.hid hp8
  have HT8 := Lib.hid (T8.trans t9 (by simp))
  have HM8 := Lib.hid m8.turns.size
  clear hN hd hcell hby b3 b4 b8 t9 T8 m8 hpl hst hNd hpn hw9 hp8 l3 l4 hgy hg8 hc9 hpz hmm hb8 hb88
  go_upto_block 4 with (first
    | (refine wpList_alloc_arr (o := ⟨some 8, _, _, _, _, _⟩) rfl 165 rfl z64.toArray hz64 ?_)
    | fail)
  try simp only [Act.put, List.setIfInBounds_toArray, List.set_cons_succ, List.set_cons_zero]
  rw [← HX.out, ← HP8.out]
  refine ref_L4 p3 p4 p8 N c8 g 0 d (zerosW 64) w9 HN.out.1.1 HST.out.1 HN.out.1.2 (by simp [zerosW]) HN.out.2.1 HN.out.2.2.1 HN.out.2.2.2.1 HN.out.2.2.2.2.1 HN.out.2.2.2.2.2.1 HN.out.2.2.2.2.2.2 (by rw [HKS.out]; exact HC.out.2.1) (by rw [show stP d 0 = shaH from rfl, HHS.out]; exact HC.out.2.2.1) (by rw [HZ.out.2.1]; exact HC.out.2.2.2) HC.out.1 (fun _ _ _ o _ h => by cases o <;> exact h) ?_
  intro y9 y10 y11 y12 y13 y14 y15 y16 y17 y18 y19 y20 y55 y56 y57 y58 y59 y60 y61 y62 y63 y64 y65 y66 y67 y68 y69 y70 y71 y72 y73 y74 y75 y76 y77 y78 y79 y80 y81 y82 y83 y84 y85 y86 y87 y88 y89 y90 y91 y92 y93 y94 y95 y96 y97 y98 y99 y100 y101 y102 y103 y104 y105 y106 y107 y108 y109 y110 y111 y112 y113 y114 y115 y116 y117 y118 y119 y120 y121 y122 y123 y124 y125 y126 y127 y128 y129 y130 y131 y132 y133 y134 y135 y136 y137 y138 y139 y140 y141 y142 y143 y144 y145 y146 y147 y148 y149 y150 y151 y152 y153 y154 y155 y156 y157 y158 y159 y160 y161 y162 y163 y164 y165 y166 y167 y168 y169 y170 y171 y172 y173 y174 y175 y176 y177 y178 y179 y180 y181 y182 y183 y184 y185 y186 y187 y188 y189 y190 y191 y192 y193 y194 y195 y196 y197 y198 y199 y200 y201 y202 y203 y204 y205 y206 y207 y208 y209 y210 y211 y212 y213 y214 y215 y216 y217 y218 y219 y220 y221 y222 y223 y224 y225 y226 y227 y228 y229 y230 y231 y232 y233 y234 y235 y236 y237 y238 w10 ⟨b4, t10⟩
  have T10 : Turns [] w1 w10 := HT8.out.trans t10 (by
    intro x hx
    have h1 := H1.out.2.2
    have h2 := H2.out.2.2.2
    have h3 := HP8.out
    have h4 := H2.out.1.size
    have h5 := HC.out.2.1.lt
    have h6 : w1.heap.size ≤ p4 := by omega
    have h7 : w1.heap.size ≤ p8 := by
      have hh : y2.heap.size ≤ w8.heap.size := HM8.out
      omega
    simp at hx
    rcases hx with rfl | rfl
    · exact .inr h6
    · exact .inr h7)
  have hk : d.length / 64 = N / 64 := by rw [HST.out.1]
  have hsl := stP_len d (N / 64)
  have hst := HST.out.2
  rw [hk] at hst
  generalize stP d (N / 64) = st at b4 hsl hst
  have b21 := Blk.new w10 zz 53
  have ta : Turns [] w10 (w10.alloc (.cells zz.toArray 53)) := (Turns.refl _ _).alloc _
  obtain ⟨w11, hw11⟩ : ∃ x, x = w10.alloc (.cells zz.toArray 53) := ⟨_, rfl⟩
  have l4 := b4.lt
  rw [← hw11] at b21 ta
  obtain ⟨p21, hp21⟩ : ∃ q, q = w10.heap.size := ⟨_, rfl⟩
  rw [← hp21] at b21
  have n4 : p4 ≠ p21 := by omega
  have hW21 : w1.heap.size ≤ p21 := by have := T10.size; omega
  have HD := Lib.hid (And.intro hsl (And.intro (b4.turns ta (by simp)) (And.intro b21 (And.intro n4 hW21))))
  have HX11 := Lib.hid (And.intro hw11 hp21)
  have HRS := Lib.hid hst
  have HT11 := Lib.hid (T10.trans ta (by simp))
  clear t10 T10 hk hsl hst b21 ta hw11 hp21 n4 hW21 l4 b4
  go_upto_block 14 with (first
    | (refine wpList_alloc_arr (o := ⟨some 21, _, _, _, _, _⟩) rfl 53 rfl zz.toArray hz32 ?_)
    | fail)
  try simp only [Act.put, List.setIfInBounds_toArray, List.set_cons_succ, List.set_cons_zero]
  rw [← HX11.out.1, ← HX11.out.2]
  refine ref_L14 p4 p21 st (zeros 32) w11 HD.out.1 (zeros_length 32) HD.out.2.2.2.1 HD.out.2.1 (by rw [HZ.out.1]; exact HD.out.2.2.1) (fun _ _ _ o _ h => by cases o <;> exact h) ?_
  intro y22 y239 y240 y241 y242 y243 y244 y245 y246 y247 y248 y249 y250 y251 y252 y253 y254 y255 y256 y257 y258 y259 y260 y261 y262 y263 y264 y265 y266 y267 y268 y269 y270 y271 y272 y273 y274 y275 y276 w12 ⟨b21, t12⟩
  rw [← HRS.out, ← HRES.out] at b21
  have T12 : Turns [] w1 w12 := HT11.out.trans t12 (by intro x hx; simp at hx; subst hx; exact .inr HD.out.2.2.2.2)
  have b2 := H0.out.2.2.1.turns T12 (by simp)
  have hrl : res.length = 32 := by rw [HRES.out, bvs_length, sha_len]
  have h1 : ∀ u ∈ res, u.oneCell' = true := by rw [HRES.out]; exact bvs_one _
  have HE := Lib.hid (And.intro b21 (And.intro b2 T12))
  have Q_l := Lib.hid (show zz.length = res.length by rw [HZL.out.1, hrl])
  have Q_sz := Lib.hid (show (Tryz.prog.info? 53).map (·.size) = some res.length by rw [size_hash, hrl])
  have Q_1 := Lib.hid h1
  clear b21 t12 T12 b2 hrl h1
  go_wp2_with (first
    | (refine wpList_load_blk rfl 53 (.tmp 21) rfl p21 (by kernel_rfl) res _ _ HE.out.1 Tryz.underlying53 rfl Q_sz.out ?_)
    | (refine wpList_store_blk rfl 53 (.tmp 2) (.tmp 277) rfl w.heap.size (by kernel_rfl) res zz 53 (by kernel_rfl) HE.out.2.1 Q_l.out Q_sz.out Q_1.out (fun w13 hb1 ht1 hs1 => ?_); have HQ := Lib.hid (And.intro hb1 ht1); clear hb1 ht1 hs1)
    | fail)
  refine bodyPost_ret (results_cell_row rfl _ _ w.heap.size _ _ _ _ (by kernel_rfl) HQ.out.1 Tryz.underlying53 rfl (by rw [List.size_toArray]; exact Q_sz.out)) rfl ?_
  exact ⟨rfl, (H0.out.2.2.2.trans HE.out.2.2 (by simp)).trans HQ.out.2 (by simp)⟩
end Go.Proofs.YtoahnhphfabajaaGreat
