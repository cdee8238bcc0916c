/- The reference's sum, piece by piece: its turned words, a word for a round. The reference's sum, piece by piece: what is laid behind. The reference's sum, piece by piece: a word out of bytes. The reference's sum, piece by piece: the first words of a piece. The reference's sum, piece by piece: the other words of a piece. -/
import Derived.Test.YtoahnhphfabajaaGreatGF
import Derived.Deep.DeepCutAuto
import Derived.Deep.CutBlock
namespace Go.Proofs.YtoahnhphfabajaaGreat
set_option maxRecDepth 10000
open Go.RowKit
set_option linter.unusedVariables false
set_option maxRecDepth 10000
set_option linter.unusedSimpArgs false
set_option linter.unnecessarySimpa false

/-- A region, a block of a function's code, by its number. -/
def codeRegion (n : Nat) : Code → Option Code
  | .region i ops d => if i == n then some (.region i ops d) else none
  | .seq a b => match codeRegion n a with
    | some c => some c
    | none => codeRegion n b
  | .cond _ a b => match codeRegion n a with
    | some c => some c
    | none => codeRegion n b
  | .block _ c => codeRegion n c
  | .loop c => codeRegion n c
  | .scope c => codeRegion n c
  | _ => none
def codeBlock (n : Nat) : Code → Option Code
  | .block i c => if i == n then some (.block i c) else codeBlock n c
  | .seq a b => match codeBlock n a with
    | some c => some c
    | none => codeBlock n b
  | .cond _ a b => match codeBlock n a with
    | some c => some c
    | none => codeBlock n b
  | .loop c => codeBlock n c
  | .scope c => codeBlock n c
  | _ => none
theorem rorR (x : UInt32) (n m : Nat) (c d : Int) (hc : c = ((2 ^ n : Nat) : Int)) (hd : d = ((2 ^ m : Nat) : Int)) (hm : m = 32 - n) : bits .or .u32 ((x.toNat : Int) / c) ((x.toNat : Int) * d % 4294967296) = ((ror x n).toNat : Int) := by
  subst hc hd hm
  rw [← IntKind.wrap_u32, shlW, shrW, bitsOr]; rfl
theorem rot_2 (x : UInt32) (w : World) : Calls Tryz.prog 92 #[.int .u32 x.toNat, .int .u64 2] w fun e w' => e = .returned (.int .u32 (ror x 2).toNat) ∧ w = w' := by
  have hx := w_lt x
  have hv := Lib.hid (rorR x 2 30 4 1073741824 (by decide) (by decide) (by decide))
  go_enter Tryz.func92, Tryz.ntmps92
  go_wp2_with fail
  go_ret
  exact ⟨by rw [← hv.out]; rfl, rfl⟩
theorem rot_6 (x : UInt32) (w : World) : Calls Tryz.prog 92 #[.int .u32 x.toNat, .int .u64 6] w fun e w' => e = .returned (.int .u32 (ror x 6).toNat) ∧ w = w' := by
  have hx := w_lt x
  have hv := Lib.hid (rorR x 6 26 64 67108864 (by decide) (by decide) (by decide))
  go_enter Tryz.func92, Tryz.ntmps92
  go_wp2_with fail
  go_ret
  exact ⟨by rw [← hv.out]; rfl, rfl⟩
theorem rot_7 (x : UInt32) (w : World) : Calls Tryz.prog 92 #[.int .u32 x.toNat, .int .u64 7] w fun e w' => e = .returned (.int .u32 (ror x 7).toNat) ∧ w = w' := by
  have hx := w_lt x
  have hv := Lib.hid (rorR x 7 25 128 33554432 (by decide) (by decide) (by decide))
  go_enter Tryz.func92, Tryz.ntmps92
  go_wp2_with fail
  go_ret
  exact ⟨by rw [← hv.out]; rfl, rfl⟩
theorem rot_11 (x : UInt32) (w : World) : Calls Tryz.prog 92 #[.int .u32 x.toNat, .int .u64 11] w fun e w' => e = .returned (.int .u32 (ror x 11).toNat) ∧ w = w' := by
  have hx := w_lt x
  have hv := Lib.hid (rorR x 11 21 2048 2097152 (by decide) (by decide) (by decide))
  go_enter Tryz.func92, Tryz.ntmps92
  go_wp2_with fail
  go_ret
  exact ⟨by rw [← hv.out]; rfl, rfl⟩
theorem rot_13 (x : UInt32) (w : World) : Calls Tryz.prog 92 #[.int .u32 x.toNat, .int .u64 13] w fun e w' => e = .returned (.int .u32 (ror x 13).toNat) ∧ w = w' := by
  have hx := w_lt x
  have hv := Lib.hid (rorR x 13 19 8192 524288 (by decide) (by decide) (by decide))
  go_enter Tryz.func92, Tryz.ntmps92
  go_wp2_with fail
  go_ret
  exact ⟨by rw [← hv.out]; rfl, rfl⟩
theorem rot_17 (x : UInt32) (w : World) : Calls Tryz.prog 92 #[.int .u32 x.toNat, .int .u64 17] w fun e w' => e = .returned (.int .u32 (ror x 17).toNat) ∧ w = w' := by
  have hx := w_lt x
  have hv := Lib.hid (rorR x 17 15 131072 32768 (by decide) (by decide) (by decide))
  go_enter Tryz.func92, Tryz.ntmps92
  go_wp2_with fail
  go_ret
  exact ⟨by rw [← hv.out]; rfl, rfl⟩
theorem rot_18 (x : UInt32) (w : World) : Calls Tryz.prog 92 #[.int .u32 x.toNat, .int .u64 18] w fun e w' => e = .returned (.int .u32 (ror x 18).toNat) ∧ w = w' := by
  have hx := w_lt x
  have hv := Lib.hid (rorR x 18 14 262144 16384 (by decide) (by decide) (by decide))
  go_enter Tryz.func92, Tryz.ntmps92
  go_wp2_with fail
  go_ret
  exact ⟨by rw [← hv.out]; rfl, rfl⟩
theorem rot_19 (x : UInt32) (w : World) : Calls Tryz.prog 92 #[.int .u32 x.toNat, .int .u64 19] w fun e w' => e = .returned (.int .u32 (ror x 19).toNat) ∧ w = w' := by
  have hx := w_lt x
  have hv := Lib.hid (rorR x 19 13 524288 8192 (by decide) (by decide) (by decide))
  go_enter Tryz.func92, Tryz.ntmps92
  go_wp2_with fail
  go_ret
  exact ⟨by rw [← hv.out]; rfl, rfl⟩
theorem rot_22 (x : UInt32) (w : World) : Calls Tryz.prog 92 #[.int .u32 x.toNat, .int .u64 22] w fun e w' => e = .returned (.int .u32 (ror x 22).toNat) ∧ w = w' := by
  have hx := w_lt x
  have hv := Lib.hid (rorR x 22 10 4194304 1024 (by decide) (by decide) (by decide))
  go_enter Tryz.func92, Tryz.ntmps92
  go_wp2_with fail
  go_ret
  exact ⟨by rw [← hv.out]; rfl, rfl⟩
theorem rot_25 (x : UInt32) (w : World) : Calls Tryz.prog 92 #[.int .u32 x.toNat, .int .u64 25] w fun e w' => e = .returned (.int .u32 (ror x 25).toNat) ∧ w = w' := by
  have hx := w_lt x
  have hv := Lib.hid (rorR x 25 7 33554432 128 (by decide) (by decide) (by decide))
  go_enter Tryz.func92, Tryz.ntmps92
  go_wp2_with fail
  go_ret
  exact ⟨by rw [← hv.out]; rfl, rfl⟩
set_option maxRecDepth 1000000 in
set_option maxHeartbeats 4000000 in
theorem ref_R24 {Q : Exit → Act → World → Prop} {u0 u1 u2 u3 u4 u5 u6 u7 u9 u10 u11 u13 u14 u15 u16 u17 u18 u19 u20 u21 u22 u23 u24 u25 u26 u27 u28 u29 u30 u31 u32 u33 u34 u35 u36 u37 u38 u39 u40 u41 u42 u43 u44 u45 u46 u47 u48 u49 u50 u51 u52 u53 u54 u55 u56 u57 u58 u59 u60 u61 u62 u63 u64 u65 u66 u67 u68 u69 u70 u71 u72 u73 u74 u75 u76 u77 u78 u79 u80 u81 u82 u83 u84 u85 u86 u87 u88 u89 u90 u91 u92 u93 u94 u95 u96 u97 u98 u99 u100 u101 u102 u103 u104 u105 u106 u107 u108 u109 u110 u111 u112 u113 u114 u115 u116 u117 u118 u119 u120 u121 u122 u123 u124 u125 u126 u127 u128 u129 u130 u131 u132 u133 u134 u135 u136 u137 u138 u139 u140 u141 u142 u143 u144 u145 u146 u147 u148 u149 u150 u151 u152 u153 u154 u155 u156 u157 u158 u159 u160 u161 u162 u163 u164 u165 u166 u167 u168 u169 u170 u171 u172 u173 u174 u175 u176 u177 u178 u179 u180 u181 u182 u183 u184 u185 u186 u187 u188 u189 u190 u191 u192 u193 u194 u195 u196 u197 u198 u199 u200 u201 u202 u203 u204 u205 u206 u207 u208 u209 u210 u211 u212 u213 u214 u215 u216 u217 u218 u219 u220 u221 u222 u223 u224 u225 u226 u227 u228 u229 u230 u231 u232 u233 u234 u235 u236 u237 u238 u239 u240 u241 u242 u243 u244 u245 u246 u247 u248 u249 u250 u251 u252 u253 u254 u255 u256 u257 u258 u259 u260 u261 u262 u263 u264 u265 u266 u267 u268 u269 u270 u271 u272 u273 u274 u275 u276 u277 : Value} (p8 k : Nat) (x y : UInt32) (wr : World) (hk16 : 16 ≤ k) (hk64 : k < 64)
    (c15 : wr.cell? ⟨p8, k - 15, none⟩ = some (.int .u32 (x.toNat : Int))) (c2 : wr.cell? ⟨p8, k - 2, none⟩ = some (.int .u32 (y.toNat : Int)))
    (hP : ∀ c (a : Act) (w : World) o v, Q (.panic c) (a.put o v) w → Q (.panic c) a w)
    (hQ : ∀ (x104 x105 x106 x107 x108 x109 x110 x111 : Value)  (w1 : World), (w1 = wr.drew) → Q .normal ⟨(u0 :: u1 :: u2 :: u3 :: u4 :: u5 :: u6 :: u7 :: (.pointer (some ⟨p8, 0, none⟩)) :: u9 :: u10 :: u11 :: (.int .i64 (k : Int)) :: (.int .u32 (x.toNat : Int)) :: (.int .u32 (y.toNat : Int)) :: u15 :: u16 :: u17 :: u18 :: u19 :: u20 :: u21 :: u22 :: u23 :: u24 :: u25 :: u26 :: u27 :: u28 :: u29 :: u30 :: u31 :: u32 :: u33 :: u34 :: u35 :: u36 :: u37 :: u38 :: u39 :: u40 :: u41 :: u42 :: u43 :: u44 :: u45 :: u46 :: u47 :: u48 :: u49 :: u50 :: u51 :: u52 :: u53 :: u54 :: u55 :: u56 :: u57 :: u58 :: u59 :: u60 :: u61 :: u62 :: u63 :: u64 :: u65 :: u66 :: u67 :: u68 :: u69 :: u70 :: u71 :: u72 :: u73 :: u74 :: u75 :: u76 :: u77 :: u78 :: u79 :: u80 :: u81 :: u82 :: u83 :: u84 :: u85 :: u86 :: u87 :: u88 :: u89 :: u90 :: u91 :: u92 :: u93 :: u94 :: u95 :: u96 :: u97 :: u98 :: u99 :: u100 :: u101 :: u102 :: u103 :: x104 :: x105 :: x106 :: x107 :: x108 :: x109 :: x110 :: x111 :: u112 :: u113 :: u114 :: u115 :: u116 :: u117 :: u118 :: u119 :: u120 :: u121 :: u122 :: u123 :: u124 :: u125 :: u126 :: u127 :: u128 :: u129 :: u130 :: u131 :: u132 :: u133 :: u134 :: u135 :: u136 :: u137 :: u138 :: u139 :: u140 :: u141 :: u142 :: u143 :: u144 :: u145 :: u146 :: u147 :: u148 :: u149 :: u150 :: u151 :: u152 :: u153 :: u154 :: u155 :: u156 :: u157 :: u158 :: u159 :: u160 :: u161 :: u162 :: u163 :: u164 :: u165 :: u166 :: u167 :: u168 :: u169 :: u170 :: u171 :: u172 :: u173 :: u174 :: u175 :: u176 :: u177 :: u178 :: u179 :: u180 :: u181 :: u182 :: u183 :: u184 :: u185 :: u186 :: u187 :: u188 :: u189 :: u190 :: u191 :: u192 :: u193 :: u194 :: u195 :: u196 :: u197 :: u198 :: u199 :: u200 :: u201 :: u202 :: u203 :: u204 :: u205 :: u206 :: u207 :: u208 :: u209 :: u210 :: u211 :: u212 :: u213 :: u214 :: u215 :: u216 :: u217 :: u218 :: u219 :: u220 :: u221 :: u222 :: u223 :: u224 :: u225 :: u226 :: u227 :: u228 :: u229 :: u230 :: u231 :: u232 :: u233 :: u234 :: u235 :: u236 :: u237 :: u238 :: u239 :: u240 :: u241 :: u242 :: u243 :: u244 :: u245 :: u246 :: u247 :: u248 :: u249 :: u250 :: u251 :: u252 :: u253 :: u254 :: u255 :: u256 :: u257 :: u258 :: u259 :: u260 :: u261 :: u262 :: u263 :: u264 :: u265 :: u266 :: u267 :: u268 :: u269 :: u270 :: u271 :: u272 :: u273 :: u274 :: u275 :: u276 :: u277 :: []).toArray, []⟩ w1) :
    Code.wp Tryz.prog ((Tryz.f65.body.bind (codeRegion 24)).getD .skip) Q ⟨(u0 :: u1 :: u2 :: u3 :: u4 :: u5 :: u6 :: u7 :: (.pointer (some ⟨p8, 0, none⟩)) :: u9 :: u10 :: u11 :: (.int .i64 (k : Int)) :: u13 :: u14 :: u15 :: u16 :: u17 :: u18 :: u19 :: u20 :: u21 :: u22 :: u23 :: u24 :: u25 :: u26 :: u27 :: u28 :: u29 :: u30 :: u31 :: u32 :: u33 :: u34 :: u35 :: u36 :: u37 :: u38 :: u39 :: u40 :: u41 :: u42 :: u43 :: u44 :: u45 :: u46 :: u47 :: u48 :: u49 :: u50 :: u51 :: u52 :: u53 :: u54 :: u55 :: u56 :: u57 :: u58 :: u59 :: u60 :: u61 :: u62 :: u63 :: u64 :: u65 :: u66 :: u67 :: u68 :: u69 :: u70 :: u71 :: u72 :: u73 :: u74 :: u75 :: u76 :: u77 :: u78 :: u79 :: u80 :: u81 :: u82 :: u83 :: u84 :: u85 :: u86 :: u87 :: u88 :: u89 :: u90 :: u91 :: u92 :: u93 :: u94 :: u95 :: u96 :: u97 :: u98 :: u99 :: u100 :: u101 :: u102 :: u103 :: u104 :: u105 :: u106 :: u107 :: u108 :: u109 :: u110 :: u111 :: u112 :: u113 :: u114 :: u115 :: u116 :: u117 :: u118 :: u119 :: u120 :: u121 :: u122 :: u123 :: u124 :: u125 :: u126 :: u127 :: u128 :: u129 :: u130 :: u131 :: u132 :: u133 :: u134 :: u135 :: u136 :: u137 :: u138 :: u139 :: u140 :: u141 :: u142 :: u143 :: u144 :: u145 :: u146 :: u147 :: u148 :: u149 :: u150 :: u151 :: u152 :: u153 :: u154 :: u155 :: u156 :: u157 :: u158 :: u159 :: u160 :: u161 :: u162 :: u163 :: u164 :: u165 :: u166 :: u167 :: u168 :: u169 :: u170 :: u171 :: u172 :: u173 :: u174 :: u175 :: u176 :: u177 :: u178 :: u179 :: u180 :: u181 :: u182 :: u183 :: u184 :: u185 :: u186 :: u187 :: u188 :: u189 :: u190 :: u191 :: u192 :: u193 :: u194 :: u195 :: u196 :: u197 :: u198 :: u199 :: u200 :: u201 :: u202 :: u203 :: u204 :: u205 :: u206 :: u207 :: u208 :: u209 :: u210 :: u211 :: u212 :: u213 :: u214 :: u215 :: u216 :: u217 :: u218 :: u219 :: u220 :: u221 :: u222 :: u223 :: u224 :: u225 :: u226 :: u227 :: u228 :: u229 :: u230 :: u231 :: u232 :: u233 :: u234 :: u235 :: u236 :: u237 :: u238 :: u239 :: u240 :: u241 :: u242 :: u243 :: u244 :: u245 :: u246 :: u247 :: u248 :: u249 :: u250 :: u251 :: u252 :: u253 :: u254 :: u255 :: u256 :: u257 :: u258 :: u259 :: u260 :: u261 :: u262 :: u263 :: u264 :: u265 :: u266 :: u267 :: u268 :: u269 :: u270 :: u271 :: u272 :: u273 :: u274 :: u275 :: u276 :: u277 :: []).toArray, []⟩ wr := by
  have HQ := Lib.hid hQ
  have HPP := Lib.hid hP
  clear hQ hP
  conv => arg 2; whnf
  have qk : (k : Int) < 64 := by omega
  have w15 : IntKind.i64.wrap ((k : Int) - 15) = (k : Int) - 15 := IntWalk.i64_in _ (by omega)
  have e15 : ((k : Int) - 15).toNat = k - 15 := by omega
  have p15 : 15 ≤ (k : Int) := by omega
  have q15 : (k : Int) - 15 < 64 := by omega
  have w2 : IntKind.i64.wrap ((k : Int) - 2) = (k : Int) - 2 := IntWalk.i64_in _ (by omega)
  have e2 : ((k : Int) - 2).toNat = k - 2 := by omega
  have p2 : 2 ≤ (k : Int) := by omega
  have q2 : (k : Int) - 2 < 64 := by omega
  have hT : Turns [] wr wr.drew := (Turns.refl _ _).drew
  refine rk0 (fun W => Turns [] wr W) (fun _ => True) 10 10 ?_
  refine rkA 0 104 1 (v := ?_) ?_ (.mk' hT trivial) ?_ (hQ := fun _ _ _ h => HPP.out _ _ _ _ _ h)
  rotate_left
  · intro W hS; go_simp; all_goals with_reducible rfl
  try simp only [sI, sS, sZ]
  refine rkA 1 105 3 (v := ?_) ?_ (.mk' hT trivial) ?_ (hQ := fun _ _ _ h => HPP.out _ _ _ _ _ h)
  rotate_left
  · intro W hS; go_simp; all_goals with_reducible rfl
  try simp only [sI, sS, sZ]
  refine rkA 2 106 7 (v := ?_) ?_ (.mk' hT trivial) ?_ (hQ := fun _ _ _ h => HPP.out _ _ _ _ _ h)
  rotate_left
  · intro W hS; go_simp; all_goals with_reducible rfl
  try simp only [sI, sS, sZ]
  refine rkA 3 107 15 (v := ?_) ?_ (.mk' hT trivial) ?_ (hQ := fun _ _ _ h => HPP.out _ _ _ _ _ h)
  rotate_left
  · intro W hS; have c2 := cellL hS c15 (by simp); go_simp; all_goals with_reducible rfl
  try simp only [sI, sS, sZ]
  refine rkA 4 108 31 (v := ?_) ?_ (.mk' hT trivial) ?_ (hQ := fun _ _ _ h => HPP.out _ _ _ _ _ h)
  rotate_left
  · intro W hS; go_simp; all_goals with_reducible rfl
  try simp only [sI, sS, sZ]
  refine rkA 5 109 63 (v := ?_) ?_ (.mk' hT trivial) ?_ (hQ := fun _ _ _ h => HPP.out _ _ _ _ _ h)
  rotate_left
  · intro W hS; go_simp; all_goals with_reducible rfl
  try simp only [sI, sS, sZ]
  refine rkA 6 110 127 (v := ?_) ?_ (.mk' hT trivial) ?_ (hQ := fun _ _ _ h => HPP.out _ _ _ _ _ h)
  rotate_left
  · intro W hS; go_simp; all_goals with_reducible rfl
  try simp only [sI, sS, sZ]
  refine rkA 7 111 255 (v := ?_) ?_ (.mk' hT trivial) ?_ (hQ := fun _ _ _ h => HPP.out _ _ _ _ _ h)
  rotate_left
  · intro W hS; have c2 := cellL hS c2 (by simp); go_simp; all_goals with_reducible rfl
  try simp only [sI, sS, sZ]
  refine rkA 8 13 511 (v := ?_) ?_ (.mk' hT trivial) ?_ (hQ := fun _ _ _ h => HPP.out _ _ _ _ _ h)
  rotate_left
  · intro W hS; go_simp; all_goals with_reducible rfl
  try simp only [sI, sS, sZ]
  refine rkA 9 14 1023 (v := ?_) ?_ (.mk' hT trivial) ?_ (hQ := fun _ _ _ h => HPP.out _ _ _ _ _ h)
  rotate_left
  · intro W hS; go_simp; all_goals with_reducible rfl
  try simp only [sI, sS, sZ]
  refine rkZ ?_
  exact HQ.out _ _ _ _ _ _ _ _ _ rfl
set_option maxRecDepth 1000000 in
set_option maxHeartbeats 4000000 in
theorem ref_R25 {Q : Exit → Act → World → Prop} {u0 u1 u2 u3 u4 u5 u6 u7 u9 u10 u11 u15 u16 u17 u18 u19 u20 u21 u22 u23 u24 u25 u26 u27 u28 u29 u30 u31 u32 u33 u34 u35 u36 u37 u38 u39 u40 u41 u42 u43 u44 u45 u46 u47 u48 u49 u50 u51 u52 u53 u54 u55 u56 u57 u58 u59 u60 u61 u62 u63 u64 u65 u66 u67 u68 u69 u70 u71 u72 u73 u74 u75 u76 u77 u78 u79 u80 u81 u82 u83 u84 u85 u86 u87 u88 u89 u90 u91 u92 u93 u94 u95 u96 u97 u98 u99 u100 u101 u102 u103 u104 u105 u106 u107 u108 u109 u110 u111 u112 u113 u114 u115 u116 u117 u118 u119 u120 u121 u122 u123 u124 u125 u126 u127 u128 u129 u130 u131 u132 u133 u134 u135 u136 u137 u138 u139 u140 u141 u142 u143 u144 u145 u146 u147 u148 u149 u150 u151 u152 u153 u154 u155 u156 u157 u158 u159 u160 u161 u162 u163 u164 u165 u166 u167 u168 u169 u170 u171 u172 u173 u174 u175 u176 u177 u178 u179 u180 u181 u182 u183 u184 u185 u186 u187 u188 u189 u190 u191 u192 u193 u194 u195 u196 u197 u198 u199 u200 u201 u202 u203 u204 u205 u206 u207 u208 u209 u210 u211 u212 u213 u214 u215 u216 u217 u218 u219 u220 u221 u222 u223 u224 u225 u226 u227 u228 u229 u230 u231 u232 u233 u234 u235 u236 u237 u238 u239 u240 u241 u242 u243 u244 u245 u246 u247 u248 u249 u250 u251 u252 u253 u254 u255 u256 u257 u258 u259 u260 u261 u262 u263 u264 u265 u266 u267 u268 u269 u270 u271 u272 u273 u274 u275 u276 u277 : Value} (p8 k : Nat) (x y v7 v16 vk : UInt32) (wr : World) (hk16 : 16 ≤ k) (hk64 : k < 64)
    (c7 : wr.cell? ⟨p8, k - 7, none⟩ = some (.int .u32 (v7.toNat : Int))) (c16 : wr.cell? ⟨p8, k - 16, none⟩ = some (.int .u32 (v16.toNat : Int))) (ck : wr.cell? ⟨p8, k, none⟩ = some (.int .u32 (vk.toNat : Int))) (fk : wr.frozen? ⟨p8, k, none⟩ = false)
    (hP : ∀ c (a : Act) (w : World) o v, Q (.panic c) (a.put o v) w → Q (.panic c) a w)
    (hQ : ∀ (x112 x113 x114 x115 x116 x117 x118 x119 x120 x121 x122 x123 x124 x125 x126 x127 x128 x129 x130 x131 x132 x133 x134 x135 x136 x137 x138 x139 x140 : Value)  (w1 : World), (w1 = (wr.setCell ⟨p8, k, none⟩ (.int .u32 (((ror y 17 ^^^ ror y 19 ^^^ shr32 y 10) + v7 + (ror x 7 ^^^ ror x 18 ^^^ shr32 x 3) + v16).toNat : Int))).drew) → Q .normal ⟨(u0 :: u1 :: u2 :: u3 :: u4 :: u5 :: u6 :: u7 :: (.pointer (some ⟨p8, 0, none⟩)) :: u9 :: u10 :: u11 :: (.int .i64 (k : Int)) :: (.int .u32 (x.toNat : Int)) :: (.int .u32 (y.toNat : Int)) :: u15 :: u16 :: u17 :: u18 :: u19 :: u20 :: u21 :: u22 :: u23 :: u24 :: u25 :: u26 :: u27 :: u28 :: u29 :: u30 :: u31 :: u32 :: u33 :: u34 :: u35 :: u36 :: u37 :: u38 :: u39 :: u40 :: u41 :: u42 :: u43 :: u44 :: u45 :: u46 :: u47 :: u48 :: u49 :: u50 :: u51 :: u52 :: u53 :: u54 :: u55 :: u56 :: u57 :: u58 :: u59 :: u60 :: u61 :: u62 :: u63 :: u64 :: u65 :: u66 :: u67 :: u68 :: u69 :: u70 :: u71 :: u72 :: u73 :: u74 :: u75 :: u76 :: u77 :: u78 :: u79 :: u80 :: u81 :: u82 :: u83 :: u84 :: u85 :: u86 :: u87 :: u88 :: u89 :: u90 :: u91 :: u92 :: u93 :: u94 :: u95 :: u96 :: u97 :: u98 :: u99 :: u100 :: u101 :: u102 :: u103 :: u104 :: u105 :: u106 :: u107 :: u108 :: u109 :: u110 :: u111 :: x112 :: x113 :: x114 :: x115 :: x116 :: x117 :: x118 :: x119 :: x120 :: x121 :: x122 :: x123 :: x124 :: x125 :: x126 :: x127 :: x128 :: x129 :: x130 :: x131 :: x132 :: x133 :: x134 :: x135 :: x136 :: x137 :: x138 :: x139 :: x140 :: u141 :: u142 :: u143 :: u144 :: u145 :: u146 :: u147 :: u148 :: u149 :: u150 :: u151 :: u152 :: u153 :: u154 :: u155 :: u156 :: u157 :: u158 :: u159 :: u160 :: u161 :: u162 :: u163 :: u164 :: u165 :: u166 :: u167 :: u168 :: u169 :: u170 :: u171 :: u172 :: u173 :: u174 :: u175 :: u176 :: u177 :: u178 :: u179 :: u180 :: u181 :: u182 :: u183 :: u184 :: u185 :: u186 :: u187 :: u188 :: u189 :: u190 :: u191 :: u192 :: u193 :: u194 :: u195 :: u196 :: u197 :: u198 :: u199 :: u200 :: u201 :: u202 :: u203 :: u204 :: u205 :: u206 :: u207 :: u208 :: u209 :: u210 :: u211 :: u212 :: u213 :: u214 :: u215 :: u216 :: u217 :: u218 :: u219 :: u220 :: u221 :: u222 :: u223 :: u224 :: u225 :: u226 :: u227 :: u228 :: u229 :: u230 :: u231 :: u232 :: u233 :: u234 :: u235 :: u236 :: u237 :: u238 :: u239 :: u240 :: u241 :: u242 :: u243 :: u244 :: u245 :: u246 :: u247 :: u248 :: u249 :: u250 :: u251 :: u252 :: u253 :: u254 :: u255 :: u256 :: u257 :: u258 :: u259 :: u260 :: u261 :: u262 :: u263 :: u264 :: u265 :: u266 :: u267 :: u268 :: u269 :: u270 :: u271 :: u272 :: u273 :: u274 :: u275 :: u276 :: u277 :: []).toArray, []⟩ w1) :
    Code.wp Tryz.prog ((Tryz.f65.body.bind (codeRegion 25)).getD .skip) Q ⟨(u0 :: u1 :: u2 :: u3 :: u4 :: u5 :: u6 :: u7 :: (.pointer (some ⟨p8, 0, none⟩)) :: u9 :: u10 :: u11 :: (.int .i64 (k : Int)) :: (.int .u32 (x.toNat : Int)) :: (.int .u32 (y.toNat : Int)) :: u15 :: u16 :: u17 :: u18 :: u19 :: u20 :: u21 :: u22 :: u23 :: u24 :: u25 :: u26 :: u27 :: u28 :: u29 :: u30 :: u31 :: u32 :: u33 :: u34 :: u35 :: u36 :: u37 :: u38 :: u39 :: u40 :: u41 :: u42 :: u43 :: u44 :: u45 :: u46 :: u47 :: u48 :: u49 :: u50 :: u51 :: u52 :: u53 :: u54 :: u55 :: u56 :: u57 :: u58 :: u59 :: u60 :: u61 :: u62 :: u63 :: u64 :: u65 :: u66 :: u67 :: u68 :: u69 :: u70 :: u71 :: u72 :: u73 :: u74 :: u75 :: u76 :: u77 :: u78 :: u79 :: u80 :: u81 :: u82 :: u83 :: u84 :: u85 :: u86 :: u87 :: u88 :: u89 :: u90 :: u91 :: u92 :: u93 :: u94 :: u95 :: u96 :: u97 :: u98 :: u99 :: u100 :: u101 :: u102 :: u103 :: u104 :: u105 :: u106 :: u107 :: u108 :: u109 :: u110 :: u111 :: u112 :: u113 :: u114 :: u115 :: u116 :: u117 :: u118 :: u119 :: u120 :: u121 :: u122 :: u123 :: u124 :: u125 :: u126 :: u127 :: u128 :: u129 :: u130 :: u131 :: u132 :: u133 :: u134 :: u135 :: u136 :: u137 :: u138 :: u139 :: u140 :: u141 :: u142 :: u143 :: u144 :: u145 :: u146 :: u147 :: u148 :: u149 :: u150 :: u151 :: u152 :: u153 :: u154 :: u155 :: u156 :: u157 :: u158 :: u159 :: u160 :: u161 :: u162 :: u163 :: u164 :: u165 :: u166 :: u167 :: u168 :: u169 :: u170 :: u171 :: u172 :: u173 :: u174 :: u175 :: u176 :: u177 :: u178 :: u179 :: u180 :: u181 :: u182 :: u183 :: u184 :: u185 :: u186 :: u187 :: u188 :: u189 :: u190 :: u191 :: u192 :: u193 :: u194 :: u195 :: u196 :: u197 :: u198 :: u199 :: u200 :: u201 :: u202 :: u203 :: u204 :: u205 :: u206 :: u207 :: u208 :: u209 :: u210 :: u211 :: u212 :: u213 :: u214 :: u215 :: u216 :: u217 :: u218 :: u219 :: u220 :: u221 :: u222 :: u223 :: u224 :: u225 :: u226 :: u227 :: u228 :: u229 :: u230 :: u231 :: u232 :: u233 :: u234 :: u235 :: u236 :: u237 :: u238 :: u239 :: u240 :: u241 :: u242 :: u243 :: u244 :: u245 :: u246 :: u247 :: u248 :: u249 :: u250 :: u251 :: u252 :: u253 :: u254 :: u255 :: u256 :: u257 :: u258 :: u259 :: u260 :: u261 :: u262 :: u263 :: u264 :: u265 :: u266 :: u267 :: u268 :: u269 :: u270 :: u271 :: u272 :: u273 :: u274 :: u275 :: u276 :: u277 :: []).toArray, []⟩ wr := by
  have HQ := Lib.hid hQ
  have HPP := Lib.hid hP
  clear hQ hP
  conv => arg 2; whnf
  have qk : (k : Int) < 64 := by omega
  have w7 : IntKind.i64.wrap ((k : Int) - 7) = (k : Int) - 7 := IntWalk.i64_in _ (by omega)
  have e7 : ((k : Int) - 7).toNat = k - 7 := by omega
  have p7 : 7 ≤ (k : Int) := by omega
  have q7 : (k : Int) - 7 < 64 := by omega
  have w16 : IntKind.i64.wrap ((k : Int) - 16) = (k : Int) - 16 := IntWalk.i64_in _ (by omega)
  have e16 : ((k : Int) - 16).toNat = k - 16 := by omega
  have p16 : 16 ≤ (k : Int) := by omega
  have q16 : (k : Int) - 16 < 64 := by omega
  have HS3 := Lib.hid (show ∀ x : UInt32, (x.toNat : Int) / 8 = ((shr32 x 3).toNat : Int) from fun x => shrW x 3)
  have HS10 := Lib.hid (show ∀ x : UInt32, (x.toNat : Int) / 1024 = ((shr32 x 10).toNat : Int) from fun x => shrW x 10)
  have hT : Turns [] wr wr.drew := (Turns.refl _ _).drew
  refine rk0 (fun _ => True) (fun W => Turns [] wr W) 29 30 ?_
  refine rkA 0 112 1 (v := ?_) ?_ (.mk' trivial hT) ?_ (hQ := fun _ _ _ h => HPP.out _ _ _ _ _ h)
  rotate_left
  · intro W hS; go_simp; all_goals with_reducible rfl
  try simp only [sI, sS, sZ]
  refine rkA 1 113 3 (v := ?_) ?_ (.mk' trivial hT) ?_ (hQ := fun _ _ _ h => HPP.out _ _ _ _ _ h)
  rotate_left
  · intro W hS; go_simp; all_goals with_reducible rfl
  try simp only [sI, sS, sZ]
  refine rkA 3 115 11 (v := ?_) ?_ (.mk' trivial hT) ?_ (hQ := fun _ _ _ h => HPP.out _ _ _ _ _ h)
  rotate_left
  · intro W hS; go_simp; all_goals with_reducible rfl
  try simp only [sI, sS, sZ]
  refine rkA 6 118 75 (v := ?_) ?_ (.mk' trivial hT) ?_ (hQ := fun _ _ _ h => HPP.out _ _ _ _ _ h)
  rotate_left
  · intro W hS; go_simp; all_goals with_reducible rfl
  try simp only [sI, sS, sZ]
  refine rkA 7 119 203 (v := ?_) ?_ (.mk' trivial hT) ?_ (hQ := fun _ _ _ h => HPP.out _ _ _ _ _ h)
  rotate_left
  · intro W hS; go_simp; all_goals with_reducible rfl
  try simp only [sI, sS, sZ]
  refine rkA 9 121 715 (v := ?_) ?_ (.mk' trivial hT) ?_ (hQ := fun _ _ _ h => HPP.out _ _ _ _ _ h)
  rotate_left
  · intro W hS; go_simp; all_goals with_reducible rfl
  try simp only [sI, sS, sZ]
  refine rkA 10 122 1739 (v := ?_) ?_ (.mk' trivial hT) ?_ (hQ := fun _ _ _ h => HPP.out _ _ _ _ _ h)
  rotate_left
  · intro W hS; go_simp; all_goals with_reducible rfl
  try simp only [sI, sS, sZ]
  refine rkA 11 123 3787 (v := ?_) ?_ (.mk' trivial hT) ?_ (hQ := fun _ _ _ h => HPP.out _ _ _ _ _ h)
  rotate_left
  · intro W hS; go_simp; all_goals with_reducible rfl
  try simp only [sI, sS, sZ]
  refine rkT 12 124 7883 (v := ?_) ?_ (.mk' trivial hT) ?_ (hQ := fun _ _ _ h => HPP.out _ _ _ _ _ h)
  rotate_left
  · rintro W ⟨-, hS⟩; have c2 := cellL hS c7 (by simp); go_simp; all_goals with_reducible rfl
  try simp only [sI, sS, sZ]
  refine rkA 14 126 24267 (v := ?_) ?_ (.mk' trivial hT) ?_ (hQ := fun _ _ _ h => HPP.out _ _ _ _ _ h)
  rotate_left
  · intro W hS; go_simp; all_goals with_reducible rfl
  try simp only [sI, sS, sZ]
  refine rkA 16 128 89803 (v := ?_) ?_ (.mk' trivial hT) ?_ (hQ := fun _ _ _ h => HPP.out _ _ _ _ _ h)
  rotate_left
  · intro W hS; go_simp; all_goals with_reducible rfl
  try simp only [sI, sS, sZ]
  refine rkA 19 131 614091 (v := ?_) ?_ (.mk' trivial hT) ?_ (hQ := fun _ _ _ h => HPP.out _ _ _ _ _ h)
  rotate_left
  · intro W hS; go_simp; all_goals with_reducible rfl
  try simp only [sI, sS, sZ]
  refine rkA 20 132 1662667 (v := ?_) ?_ (.mk' trivial hT) ?_ (hQ := fun _ _ _ h => HPP.out _ _ _ _ _ h)
  rotate_left
  · intro W hS; go_simp; all_goals with_reducible rfl
  try simp only [sI, sS, sZ]
  refine rkA 23 135 10051275 (v := ?_) ?_ (.mk' trivial hT) ?_ (hQ := fun _ _ _ h => HPP.out _ _ _ _ _ h)
  rotate_left
  · intro W hS; go_simp; all_goals with_reducible rfl
  try simp only [sI, sS, sZ]
  refine rkA 24 136 26828491 (v := ?_) ?_ (.mk' trivial hT) ?_ (hQ := fun _ _ _ h => HPP.out _ _ _ _ _ h)
  rotate_left
  · intro W hS; go_simp; all_goals with_reducible rfl
  try simp only [sI, sS, sZ]
  refine rkA 25 137 60382923 (v := ?_) ?_ (.mk' trivial hT) ?_ (hQ := fun _ _ _ h => HPP.out _ _ _ _ _ h)
  rotate_left
  · intro W hS; go_simp; all_goals with_reducible rfl
  try simp only [sI, sS, sZ]
  refine rkT 26 138 127491787 (v := ?_) ?_ (.mk' trivial hT) ?_ (hQ := fun _ _ _ h => HPP.out _ _ _ _ _ h)
  rotate_left
  · rintro W ⟨-, hS⟩; have c2 := cellL hS c16 (by simp); go_simp; all_goals with_reducible rfl
  try simp only [sI, sS, sZ]
  refine rk1 2 127491791 (fun K hK => ?_)
  go_simp
  refine (rot_17 y _).mono ?_
  rintro e ww ⟨rfl, rfl⟩
  refine hK _ _ (.mk' trivial hT) ?_
  clear hK K
  try simp only [sI, sS, sZ]
  refine rk1 4 127491807 (fun K hK => ?_)
  go_simp
  refine (rot_19 y _).mono ?_
  rintro e ww ⟨rfl, rfl⟩
  refine hK _ _ (.mk' trivial hT) ?_
  clear hK K
  try simp only [sI, sS, sZ]
  refine rkA 5 117 127491839 (v := ?_) ?_ (.mk' trivial hT) ?_ (hQ := fun _ _ _ h => HPP.out _ _ _ _ _ h)
  rotate_left
  · intro W hS; go_simp; all_goals with_reducible rfl
  try simp only [sI, sS, sZ]
  refine rkA 8 120 127492095 (v := ?_) ?_ (.mk' trivial hT) ?_ (hQ := fun _ _ _ h => HPP.out _ _ _ _ _ h)
  rotate_left
  · intro W hS; go_simp; all_goals with_reducible rfl
  try simp only [sI, sS, sZ]
  refine rkA 13 125 127500287 (v := ?_) ?_ (.mk' trivial hT) ?_ (hQ := fun _ _ _ h => HPP.out _ _ _ _ _ h)
  rotate_left
  · intro W hS; go_simp; all_goals with_reducible rfl
  try simp only [sI, sS, sZ]
  refine rk1 15 127533055 (fun K hK => ?_)
  go_simp
  refine (rot_7 x _).mono ?_
  rintro e ww ⟨rfl, rfl⟩
  refine hK _ _ (.mk' trivial hT) ?_
  clear hK K
  try simp only [sI, sS, sZ]
  refine rk1 17 127664127 (fun K hK => ?_)
  go_simp
  refine (rot_18 x _).mono ?_
  rintro e ww ⟨rfl, rfl⟩
  refine hK _ _ (.mk' trivial hT) ?_
  clear hK K
  try simp only [sI, sS, sZ]
  refine rkA 18 130 127926271 (v := ?_) ?_ (.mk' trivial hT) ?_ (hQ := fun _ _ _ h => HPP.out _ _ _ _ _ h)
  rotate_left
  · intro W hS; go_simp; all_goals with_reducible rfl
  try simp only [sI, sS, sZ]
  refine rkA 21 133 130023423 (v := ?_) ?_ (.mk' trivial hT) ?_ (hQ := fun _ _ _ h => HPP.out _ _ _ _ _ h)
  rotate_left
  · intro W hS; go_simp; all_goals with_reducible rfl
  try simp only [sI, sS, sZ]
  refine rkA 22 134 134217727 (v := ?_) ?_ (.mk' trivial hT) ?_ (hQ := fun _ _ _ h => HPP.out _ _ _ _ _ h)
  rotate_left
  · intro W hS; go_simp; all_goals with_reducible rfl
  try simp only [sI, sS, sZ]
  refine rkA 27 139 268435455 (v := ?_) ?_ (.mk' trivial hT) ?_ (hQ := fun _ _ _ h => HPP.out _ _ _ _ _ h)
  rotate_left
  · intro W hS; go_simp; all_goals with_reducible rfl
  try simp only [sI, sS, sZ]
  refine rkA 28 140 536870911 (v := ?_) ?_ (.mk' trivial hT) ?_ (hQ := fun _ _ _ h => HPP.out _ _ _ _ _ h)
  rotate_left
  · intro W hS; go_simp; all_goals with_reducible rfl
  try simp only [sI, sS, sZ]
  refine rk1 29 1073741823 (fun K hK => ?_)
  go_simp
  refine hK _ _ (.p trivial) ?_
  clear hK K
  try simp only [sI, sS, sZ]
  refine rkZ ?_
  simp only [bitsXor, wrapAdd, HS3.out, HS10.out]
  exact HQ.out _ _ _ _ _ _ _ _ _ _ _ _ _ _ _ _ _ _ _ _ _ _ _ _ _ _ _ _ _ _ rfl
end Go.Proofs.YtoahnhphfabajaaGreat
namespace Go.Proofs.YtoahnhphfabajaaGreat
set_option maxRecDepth 10000
open Go.RowKit
set_option linter.unusedVariables false
set_option linter.unusedSimpArgs false
set_option linter.unnecessarySimpa false

theorem mine_push' {W0 w : World} {v : Value} {bs : List UInt8} (h : Mine W0 w v bs) (hm : bs.length ≤ 2000000000) (x : UInt8) (u : Value) (hu : u = u8v x) (ty : TypeId) :
    ∃ v' w', (Builtin.append_ #[129, 129] ty #[v, .slice (some ⟨w.heap.size, 0, none⟩) 1 1]).run Tryz.prog (w.alloc (.cells #[u] 5)) = .ok v' w' ∧ Mine W0 w' v' (bs ++ [x]) := by
  obtain ⟨v', w', hr, m⟩ := mine_push (MineL.of h) hm x u hu ty
  exact ⟨v', w', hr, m.mine h⟩
set_option maxRecDepth 1000000 in
set_option maxHeartbeats 4000000 in
theorem ref_L0 {Q : Exit → Act → World → Prop} {u0 u1 u2 u3 u4 u6 u7 u8 u9 u10 u11 u12 u13 u14 u15 u16 u17 u18 u19 u20 u21 u22 u23 u24 u25 u26 u27 u28 u29 u30 u31 u32 u33 u34 u35 u36 u37 u38 u39 u40 u41 u42 u43 u44 u45 u46 u47 u48 u49 u50 u51 u52 u53 u54 u55 u56 u57 u58 u59 u60 u61 u62 u63 u64 u65 u66 u67 u68 u69 u70 u71 u72 u73 u74 u75 u76 u77 u78 u79 u80 u81 u82 u83 u84 u85 u86 u87 u88 u89 u90 u91 u92 u93 u94 u95 u96 u97 u98 u99 u100 u101 u102 u103 u104 u105 u106 u107 u108 u109 u110 u111 u112 u113 u114 u115 u116 u117 u118 u119 u120 u121 u122 u123 u124 u125 u126 u127 u128 u129 u130 u131 u132 u133 u134 u135 u136 u137 u138 u139 u140 u141 u142 u143 u144 u145 u146 u147 u148 u149 u150 u151 u152 u153 u154 u155 u156 u157 u158 u159 u160 u161 u162 u163 u164 u165 u166 u167 u168 u169 u170 u171 u172 u173 u174 u175 u176 u177 u178 u179 u180 u181 u182 u183 u184 u185 u186 u187 u188 u189 u190 u191 u192 u193 u194 u195 u196 u197 u198 u199 u200 u201 u202 u203 u204 u205 u206 u207 u208 u209 u210 u211 u212 u213 u214 u215 u216 u217 u218 u219 u220 u221 u222 u223 u224 u225 u226 u227 u228 u229 u230 u231 u232 u233 u234 u235 u236 u237 u238 u239 u240 u241 u242 u243 u244 u245 u246 u247 u248 u249 u250 u251 u252 u253 u254 u255 u256 u257 u258 u259 u260 u261 u262 u263 u264 u265 u266 u267 u268 u269 u270 u271 u272 u273 u274 u275 u276 u277 : Value} (W0 : World) (A : Option Addr) (c : Nat) (b : List UInt8) (w : World) (hm : b.length ≤ 1000000000) (h : Mine W0 w (.slice A (b.length + 1) c) (padK b 0))
    (hP : ∀ c (a : Act) (w : World) o v, Q (.panic c) (a.put o v) w → Q (.panic c) a w)
    (hQ : ∀ (x31 x32 x33 x34 x35 x36 x37 : Value) (A1 : Option Addr) (c1 : Nat) (w1 : World), (Mine W0 w1 (.slice A1 (b.length + 1 + padZ b.length) c1) (padK b (padZ b.length))) → Q .normal ⟨(u0 :: u1 :: u2 :: u3 :: u4 :: (.slice A1 (b.length + 1 + padZ b.length) c1) :: u6 :: u7 :: u8 :: u9 :: u10 :: u11 :: u12 :: u13 :: u14 :: u15 :: u16 :: u17 :: u18 :: u19 :: u20 :: u21 :: u22 :: u23 :: u24 :: u25 :: u26 :: u27 :: u28 :: u29 :: u30 :: x31 :: x32 :: x33 :: x34 :: x35 :: x36 :: x37 :: u38 :: u39 :: u40 :: u41 :: u42 :: u43 :: u44 :: u45 :: u46 :: u47 :: u48 :: u49 :: u50 :: u51 :: u52 :: u53 :: u54 :: u55 :: u56 :: u57 :: u58 :: u59 :: u60 :: u61 :: u62 :: u63 :: u64 :: u65 :: u66 :: u67 :: u68 :: u69 :: u70 :: u71 :: u72 :: u73 :: u74 :: u75 :: u76 :: u77 :: u78 :: u79 :: u80 :: u81 :: u82 :: u83 :: u84 :: u85 :: u86 :: u87 :: u88 :: u89 :: u90 :: u91 :: u92 :: u93 :: u94 :: u95 :: u96 :: u97 :: u98 :: u99 :: u100 :: u101 :: u102 :: u103 :: u104 :: u105 :: u106 :: u107 :: u108 :: u109 :: u110 :: u111 :: u112 :: u113 :: u114 :: u115 :: u116 :: u117 :: u118 :: u119 :: u120 :: u121 :: u122 :: u123 :: u124 :: u125 :: u126 :: u127 :: u128 :: u129 :: u130 :: u131 :: u132 :: u133 :: u134 :: u135 :: u136 :: u137 :: u138 :: u139 :: u140 :: u141 :: u142 :: u143 :: u144 :: u145 :: u146 :: u147 :: u148 :: u149 :: u150 :: u151 :: u152 :: u153 :: u154 :: u155 :: u156 :: u157 :: u158 :: u159 :: u160 :: u161 :: u162 :: u163 :: u164 :: u165 :: u166 :: u167 :: u168 :: u169 :: u170 :: u171 :: u172 :: u173 :: u174 :: u175 :: u176 :: u177 :: u178 :: u179 :: u180 :: u181 :: u182 :: u183 :: u184 :: u185 :: u186 :: u187 :: u188 :: u189 :: u190 :: u191 :: u192 :: u193 :: u194 :: u195 :: u196 :: u197 :: u198 :: u199 :: u200 :: u201 :: u202 :: u203 :: u204 :: u205 :: u206 :: u207 :: u208 :: u209 :: u210 :: u211 :: u212 :: u213 :: u214 :: u215 :: u216 :: u217 :: u218 :: u219 :: u220 :: u221 :: u222 :: u223 :: u224 :: u225 :: u226 :: u227 :: u228 :: u229 :: u230 :: u231 :: u232 :: u233 :: u234 :: u235 :: u236 :: u237 :: u238 :: u239 :: u240 :: u241 :: u242 :: u243 :: u244 :: u245 :: u246 :: u247 :: u248 :: u249 :: u250 :: u251 :: u252 :: u253 :: u254 :: u255 :: u256 :: u257 :: u258 :: u259 :: u260 :: u261 :: u262 :: u263 :: u264 :: u265 :: u266 :: u267 :: u268 :: u269 :: u270 :: u271 :: u272 :: u273 :: u274 :: u275 :: u276 :: u277 :: []).toArray, []⟩ w1) :
    Code.wp Tryz.prog ((Tryz.f65.body.bind (codeBlock 0)).getD .skip) Q ⟨(u0 :: u1 :: u2 :: u3 :: u4 :: (.slice A (b.length + 1) c) :: u6 :: u7 :: u8 :: u9 :: u10 :: u11 :: u12 :: u13 :: u14 :: u15 :: u16 :: u17 :: u18 :: u19 :: u20 :: u21 :: u22 :: u23 :: u24 :: u25 :: u26 :: u27 :: u28 :: u29 :: u30 :: u31 :: u32 :: u33 :: u34 :: u35 :: u36 :: u37 :: u38 :: u39 :: u40 :: u41 :: u42 :: u43 :: u44 :: u45 :: u46 :: u47 :: u48 :: u49 :: u50 :: u51 :: u52 :: u53 :: u54 :: u55 :: u56 :: u57 :: u58 :: u59 :: u60 :: u61 :: u62 :: u63 :: u64 :: u65 :: u66 :: u67 :: u68 :: u69 :: u70 :: u71 :: u72 :: u73 :: u74 :: u75 :: u76 :: u77 :: u78 :: u79 :: u80 :: u81 :: u82 :: u83 :: u84 :: u85 :: u86 :: u87 :: u88 :: u89 :: u90 :: u91 :: u92 :: u93 :: u94 :: u95 :: u96 :: u97 :: u98 :: u99 :: u100 :: u101 :: u102 :: u103 :: u104 :: u105 :: u106 :: u107 :: u108 :: u109 :: u110 :: u111 :: u112 :: u113 :: u114 :: u115 :: u116 :: u117 :: u118 :: u119 :: u120 :: u121 :: u122 :: u123 :: u124 :: u125 :: u126 :: u127 :: u128 :: u129 :: u130 :: u131 :: u132 :: u133 :: u134 :: u135 :: u136 :: u137 :: u138 :: u139 :: u140 :: u141 :: u142 :: u143 :: u144 :: u145 :: u146 :: u147 :: u148 :: u149 :: u150 :: u151 :: u152 :: u153 :: u154 :: u155 :: u156 :: u157 :: u158 :: u159 :: u160 :: u161 :: u162 :: u163 :: u164 :: u165 :: u166 :: u167 :: u168 :: u169 :: u170 :: u171 :: u172 :: u173 :: u174 :: u175 :: u176 :: u177 :: u178 :: u179 :: u180 :: u181 :: u182 :: u183 :: u184 :: u185 :: u186 :: u187 :: u188 :: u189 :: u190 :: u191 :: u192 :: u193 :: u194 :: u195 :: u196 :: u197 :: u198 :: u199 :: u200 :: u201 :: u202 :: u203 :: u204 :: u205 :: u206 :: u207 :: u208 :: u209 :: u210 :: u211 :: u212 :: u213 :: u214 :: u215 :: u216 :: u217 :: u218 :: u219 :: u220 :: u221 :: u222 :: u223 :: u224 :: u225 :: u226 :: u227 :: u228 :: u229 :: u230 :: u231 :: u232 :: u233 :: u234 :: u235 :: u236 :: u237 :: u238 :: u239 :: u240 :: u241 :: u242 :: u243 :: u244 :: u245 :: u246 :: u247 :: u248 :: u249 :: u250 :: u251 :: u252 :: u253 :: u254 :: u255 :: u256 :: u257 :: u258 :: u259 :: u260 :: u261 :: u262 :: u263 :: u264 :: u265 :: u266 :: u267 :: u268 :: u269 :: u270 :: u271 :: u272 :: u273 :: u274 :: u275 :: u276 :: u277 :: []).toArray, []⟩ w := by
  have HQ := Lib.hid hQ
  have HPP := Lib.hid hP
  clear hQ hP
  conv => arg 2; whnf
  have hpz := padZ_lt b.length
  have H0 := Lib.hid h
  clear h
  go_wp2_with fail
  go_loopw [5] (fun v wr => ∃ (k : Nat) (A : Option Addr) (c : Nat), k ≤ padZ b.length ∧ v = .slice A (b.length + 1 + k) c ∧ Mine W0 wr (.slice A (b.length + 1 + k) c) (padK b k)) (fun v _ => b.length + 100 - vlen v)
  case atStart => exact ⟨0, A, c, by omega, by simp, by simpa [padK] using H0.out⟩
  case round =>
    clear H0
    obtain ⟨k, A1, c1, hk, rfl, mk⟩ := hrel
    have hsp := padZ_spec b.length k hk
    by_cases hkz : k = padZ b.length
    · have h56 : ((b.length + 1 + k : Nat) : Int) % 64 = 56 := by have := hsp.2 hkz; omega
      have hx : (((b.length : Int) + 1 + (k : Int)) % 64 != 56) = false := by simp; omega
      rw [hkz] at mk
      have MK := Lib.hid mk
      have HK := Lib.hid hkz
      clear mk hsp hkz h56
      go_wp2_with fail
      rw [HK.out]
      exact HQ.out _ _ _ _ _ _ _ _ _ _ MK.out
    · have h56 : ¬ ((b.length + 1 + k : Nat) : Int) % 64 = 56 := by have := fun h => hkz (hsp.1 h); omega
      obtain ⟨v2, w2, hr2, m2⟩ := mine_push' mk (by rw [padK_len]; omega) 0 (.int .u8 0) rfl 129
      rw [← padK_step] at m2
      obtain ⟨A2, c2, rfl, _⟩ := m2.len
      rw [padK_len] at m2 hr2
      have M2 := Lib.hid m2
      have hx : (((b.length : Int) + 1 + (k : Int)) % 64 != 56) = true := by simp; omega
      clear m2 mk hsp
      go_wp2_with (at_builtin; refine wpList_append_at rfl (.tmp 35) (.tmp 36) rfl hr2 rfl rfl ?_)
      clear hr2
      go_roundw
      case rel => exact ⟨k + 1, A2, c2, by omega, rfl, M2.out⟩
      case measure => (simp [vlen] <;> omega)
set_option maxRecDepth 1000000 in
set_option maxHeartbeats 4000000 in
theorem ref_L2 {Q : Exit → Act → World → Prop} {u0 u1 u2 u3 u4 u8 u9 u10 u11 u12 u13 u14 u15 u16 u17 u18 u19 u20 u21 u22 u23 u24 u25 u26 u27 u28 u29 u30 u31 u32 u33 u34 u35 u36 u37 u38 u39 u40 u41 u42 u43 u44 u45 u46 u47 u48 u49 u50 u51 u52 u53 u54 u55 u56 u57 u58 u59 u60 u61 u62 u63 u64 u65 u66 u67 u68 u69 u70 u71 u72 u73 u74 u75 u76 u77 u78 u79 u80 u81 u82 u83 u84 u85 u86 u87 u88 u89 u90 u91 u92 u93 u94 u95 u96 u97 u98 u99 u100 u101 u102 u103 u104 u105 u106 u107 u108 u109 u110 u111 u112 u113 u114 u115 u116 u117 u118 u119 u120 u121 u122 u123 u124 u125 u126 u127 u128 u129 u130 u131 u132 u133 u134 u135 u136 u137 u138 u139 u140 u141 u142 u143 u144 u145 u146 u147 u148 u149 u150 u151 u152 u153 u154 u155 u156 u157 u158 u159 u160 u161 u162 u163 u164 u165 u166 u167 u168 u169 u170 u171 u172 u173 u174 u175 u176 u177 u178 u179 u180 u181 u182 u183 u184 u185 u186 u187 u188 u189 u190 u191 u192 u193 u194 u195 u196 u197 u198 u199 u200 u201 u202 u203 u204 u205 u206 u207 u208 u209 u210 u211 u212 u213 u214 u215 u216 u217 u218 u219 u220 u221 u222 u223 u224 u225 u226 u227 u228 u229 u230 u231 u232 u233 u234 u235 u236 u237 u238 u239 u240 u241 u242 u243 u244 u245 u246 u247 u248 u249 u250 u251 u252 u253 u254 u255 u256 u257 u258 u259 u260 u261 u262 u263 u264 u265 u266 u267 u268 u269 u270 u271 u272 u273 u274 u275 u276 u277 : Value} (W0 : World) (A : Option Addr) (p c n : Nat) (pk : List UInt8) (w : World) (hp : pk.length = p) (hm : p ≤ 1500000000) (hn : n ≤ 1000000000) (h : Mine W0 w (.slice A p c) pk)
    (hP : ∀ c (a : Act) (w : World) o v, Q (.panic c) (a.put o v) w → Q (.panic c) a w)
    (hQ : ∀ (x7 x42 x43 x44 x45 x46 x47 x48 x49 x50 x51 x52 x53 x54 : Value) (A1 : Option Addr) (c1 : Nat) (w1 : World), (Mine W0 w1 (.slice A1 (p + 8) c1) (pk ++ beTo (n * 8) 8)) → Q .normal ⟨(u0 :: u1 :: u2 :: u3 :: u4 :: (.slice A1 (p + 8) c1) :: (.int .u64 ((n : Int) * 8)) :: x7 :: u8 :: u9 :: u10 :: u11 :: u12 :: u13 :: u14 :: u15 :: u16 :: u17 :: u18 :: u19 :: u20 :: u21 :: u22 :: u23 :: u24 :: u25 :: u26 :: u27 :: u28 :: u29 :: u30 :: u31 :: u32 :: u33 :: u34 :: u35 :: u36 :: u37 :: u38 :: u39 :: u40 :: u41 :: x42 :: x43 :: x44 :: x45 :: x46 :: x47 :: x48 :: x49 :: x50 :: x51 :: x52 :: x53 :: x54 :: u55 :: u56 :: u57 :: u58 :: u59 :: u60 :: u61 :: u62 :: u63 :: u64 :: u65 :: u66 :: u67 :: u68 :: u69 :: u70 :: u71 :: u72 :: u73 :: u74 :: u75 :: u76 :: u77 :: u78 :: u79 :: u80 :: u81 :: u82 :: u83 :: u84 :: u85 :: u86 :: u87 :: u88 :: u89 :: u90 :: u91 :: u92 :: u93 :: u94 :: u95 :: u96 :: u97 :: u98 :: u99 :: u100 :: u101 :: u102 :: u103 :: u104 :: u105 :: u106 :: u107 :: u108 :: u109 :: u110 :: u111 :: u112 :: u113 :: u114 :: u115 :: u116 :: u117 :: u118 :: u119 :: u120 :: u121 :: u122 :: u123 :: u124 :: u125 :: u126 :: u127 :: u128 :: u129 :: u130 :: u131 :: u132 :: u133 :: u134 :: u135 :: u136 :: u137 :: u138 :: u139 :: u140 :: u141 :: u142 :: u143 :: u144 :: u145 :: u146 :: u147 :: u148 :: u149 :: u150 :: u151 :: u152 :: u153 :: u154 :: u155 :: u156 :: u157 :: u158 :: u159 :: u160 :: u161 :: u162 :: u163 :: u164 :: u165 :: u166 :: u167 :: u168 :: u169 :: u170 :: u171 :: u172 :: u173 :: u174 :: u175 :: u176 :: u177 :: u178 :: u179 :: u180 :: u181 :: u182 :: u183 :: u184 :: u185 :: u186 :: u187 :: u188 :: u189 :: u190 :: u191 :: u192 :: u193 :: u194 :: u195 :: u196 :: u197 :: u198 :: u199 :: u200 :: u201 :: u202 :: u203 :: u204 :: u205 :: u206 :: u207 :: u208 :: u209 :: u210 :: u211 :: u212 :: u213 :: u214 :: u215 :: u216 :: u217 :: u218 :: u219 :: u220 :: u221 :: u222 :: u223 :: u224 :: u225 :: u226 :: u227 :: u228 :: u229 :: u230 :: u231 :: u232 :: u233 :: u234 :: u235 :: u236 :: u237 :: u238 :: u239 :: u240 :: u241 :: u242 :: u243 :: u244 :: u245 :: u246 :: u247 :: u248 :: u249 :: u250 :: u251 :: u252 :: u253 :: u254 :: u255 :: u256 :: u257 :: u258 :: u259 :: u260 :: u261 :: u262 :: u263 :: u264 :: u265 :: u266 :: u267 :: u268 :: u269 :: u270 :: u271 :: u272 :: u273 :: u274 :: u275 :: u276 :: u277 :: []).toArray, []⟩ w1) :
    Code.wp Tryz.prog ((Tryz.f65.body.bind (codeBlock 2)).getD .skip) Q ⟨(u0 :: u1 :: u2 :: u3 :: u4 :: (.slice A p c) :: (.int .u64 ((n : Int) * 8)) :: (.int .i64 7) :: u8 :: u9 :: u10 :: u11 :: u12 :: u13 :: u14 :: u15 :: u16 :: u17 :: u18 :: u19 :: u20 :: u21 :: u22 :: u23 :: u24 :: u25 :: u26 :: u27 :: u28 :: u29 :: u30 :: u31 :: u32 :: u33 :: u34 :: u35 :: u36 :: u37 :: u38 :: u39 :: u40 :: u41 :: u42 :: u43 :: u44 :: u45 :: u46 :: u47 :: u48 :: u49 :: u50 :: u51 :: u52 :: u53 :: u54 :: u55 :: u56 :: u57 :: u58 :: u59 :: u60 :: u61 :: u62 :: u63 :: u64 :: u65 :: u66 :: u67 :: u68 :: u69 :: u70 :: u71 :: u72 :: u73 :: u74 :: u75 :: u76 :: u77 :: u78 :: u79 :: u80 :: u81 :: u82 :: u83 :: u84 :: u85 :: u86 :: u87 :: u88 :: u89 :: u90 :: u91 :: u92 :: u93 :: u94 :: u95 :: u96 :: u97 :: u98 :: u99 :: u100 :: u101 :: u102 :: u103 :: u104 :: u105 :: u106 :: u107 :: u108 :: u109 :: u110 :: u111 :: u112 :: u113 :: u114 :: u115 :: u116 :: u117 :: u118 :: u119 :: u120 :: u121 :: u122 :: u123 :: u124 :: u125 :: u126 :: u127 :: u128 :: u129 :: u130 :: u131 :: u132 :: u133 :: u134 :: u135 :: u136 :: u137 :: u138 :: u139 :: u140 :: u141 :: u142 :: u143 :: u144 :: u145 :: u146 :: u147 :: u148 :: u149 :: u150 :: u151 :: u152 :: u153 :: u154 :: u155 :: u156 :: u157 :: u158 :: u159 :: u160 :: u161 :: u162 :: u163 :: u164 :: u165 :: u166 :: u167 :: u168 :: u169 :: u170 :: u171 :: u172 :: u173 :: u174 :: u175 :: u176 :: u177 :: u178 :: u179 :: u180 :: u181 :: u182 :: u183 :: u184 :: u185 :: u186 :: u187 :: u188 :: u189 :: u190 :: u191 :: u192 :: u193 :: u194 :: u195 :: u196 :: u197 :: u198 :: u199 :: u200 :: u201 :: u202 :: u203 :: u204 :: u205 :: u206 :: u207 :: u208 :: u209 :: u210 :: u211 :: u212 :: u213 :: u214 :: u215 :: u216 :: u217 :: u218 :: u219 :: u220 :: u221 :: u222 :: u223 :: u224 :: u225 :: u226 :: u227 :: u228 :: u229 :: u230 :: u231 :: u232 :: u233 :: u234 :: u235 :: u236 :: u237 :: u238 :: u239 :: u240 :: u241 :: u242 :: u243 :: u244 :: u245 :: u246 :: u247 :: u248 :: u249 :: u250 :: u251 :: u252 :: u253 :: u254 :: u255 :: u256 :: u257 :: u258 :: u259 :: u260 :: u261 :: u262 :: u263 :: u264 :: u265 :: u266 :: u267 :: u268 :: u269 :: u270 :: u271 :: u272 :: u273 :: u274 :: u275 :: u276 :: u277 :: []).toArray, []⟩ w := by
  have HQ := Lib.hid hQ
  have HPP := Lib.hid hP
  clear hQ hP
  conv => arg 2; whnf
  have H0 := Lib.hid h
  have hl8 : (p : Int) ≤ 2000000000 := by omega
  clear h
  go_wp2_with fail
  go_loopw [5, 7] (fun v i wr => ∃ (j : Nat) (A : Option Addr) (c : Nat), j ≤ 8 ∧ i = .int .i64 (7 - (j : Int)) ∧ v = .slice A (p + j) c ∧ Mine W0 wr (.slice A (p + j) c) (pk ++ beTo (n * 8) j)) (fun _ i _ => (intOf i + 1).toNat)
  case atStart => exact ⟨0, A, c, by omega, by simp, by simp, by simpa [beTo] using H0.out⟩
  case round =>
    clear H0
    obtain ⟨j, A1, c1, hj, rfl, rfl, mj⟩ := hrel
    by_cases hlt : j < 8
    · have hval : Value.int .u8 (((n : Int) * 8) / 2 ^ (8 * (7 - j)) % 256) = u8v (UInt8.ofNat (n * 8 / 2 ^ (56 - 8 * j))) := by
        have h1 := be_val (n * 8) j (by omega)
        rw [IntKind.wrap_u8, show 56 - 8 * j = 8 * (7 - j) by omega] at h1
        rw [show 56 - 8 * j = 8 * (7 - j) by omega, ← h1]
        rfl
      obtain ⟨v2, w2, hr2, m2⟩ := mine_push' mj (by rw [List.length_append, beTo_len, hp]; omega) (UInt8.ofNat (n * 8 / 2 ^ (56 - 8 * j))) _ hval 129
      rw [List.append_assoc, ← beTo_step] at m2
      obtain ⟨A2, c2, rfl, _⟩ := m2.len
      rw [List.length_append, beTo_len, hp] at m2 hr2
      have M2 := Lib.hid m2
      have HV := Lib.hid hval
      have g0 : (0 : Int) ≤ 7 - (j : Int) := by omega
      have g1 : 0 ≤ 8 * (7 - (j : Int)) := by omega
      have e1 : min (8 * (7 - (j : Int))).toNat 64 = 56 - 8 * j := by omega
      have w0 : IntKind.u64.wrap (7 - (j : Int)) = 7 - (j : Int) := by rw [IntKind.wrap_u64]; omega
      have w1 : IntKind.u64.wrap (8 * (7 - (j : Int))) = 8 * (7 - (j : Int)) := by rw [IntKind.wrap_u64]; omega
      have ji : (j : Int) ≤ 7 := by omega
      have HJ := Lib.hid hlt
      clear m2 mj hval hlt hj
      go_wp2_with (at_builtin; refine wpList_append_at rfl (.tmp 46) (.tmp 53) rfl hr2 rfl rfl ?_)
      clear hr2
      have hlt := HJ.out
      go_roundw
      case rel => exact ⟨j + 1, A2, c2, by omega, by go_num, rfl, M2.out⟩
      case measure => (simp [intOf] <;> omega)
    · obtain rfl : j = 8 := by omega
      have MJ := Lib.hid mj
      have z8 : ¬ (0 : Int) ≤ 7 - ((8 : Nat) : Int) := by omega
      clear mj
      go_wp2_with fail
      exact HQ.out _ _ _ _ _ _ _ _ _ _ _ _ _ _ _ _ _ MJ.out
end Go.Proofs.YtoahnhphfabajaaGreat
namespace Go.Proofs.YtoahnhphfabajaaGreat
set_option maxRecDepth 10000
open Go.RowKit
set_option linter.unusedVariables false
set_option linter.unusedSimpArgs false
set_option linter.unnecessarySimpa false

set_option maxRecDepth 1000000 in
set_option maxHeartbeats 4000000 in
theorem ref_R20 {Q : Exit → Act → World → Prop} {u0 u1 u2 u3 u4 u6 u7 u9 u12 u13 u14 u15 u16 u17 u18 u19 u20 u21 u22 u23 u24 u25 u26 u27 u28 u29 u30 u31 u32 u33 u34 u35 u36 u37 u38 u39 u40 u41 u42 u43 u44 u45 u46 u47 u48 u49 u50 u51 u52 u53 u54 u55 u56 u57 u58 u59 u60 u61 u62 u63 u64 u65 u66 u67 u68 u69 u70 u71 u72 u73 u74 u75 u76 u77 u78 u79 u80 u81 u82 u83 u84 u85 u86 u87 u88 u89 u90 u91 u92 u93 u94 u95 u96 u97 u98 u99 u100 u101 u102 u103 u104 u105 u106 u107 u108 u109 u110 u111 u112 u113 u114 u115 u116 u117 u118 u119 u120 u121 u122 u123 u124 u125 u126 u127 u128 u129 u130 u131 u132 u133 u134 u135 u136 u137 u138 u139 u140 u141 u142 u143 u144 u145 u146 u147 u148 u149 u150 u151 u152 u153 u154 u155 u156 u157 u158 u159 u160 u161 u162 u163 u164 u165 u166 u167 u168 u169 u170 u171 u172 u173 u174 u175 u176 u177 u178 u179 u180 u181 u182 u183 u184 u185 u186 u187 u188 u189 u190 u191 u192 u193 u194 u195 u196 u197 u198 u199 u200 u201 u202 u203 u204 u205 u206 u207 u208 u209 u210 u211 u212 u213 u214 u215 u216 u217 u218 u219 u220 u221 u222 u223 u224 u225 u226 u227 u228 u229 u230 u231 u232 u233 u234 u235 u236 u237 u238 u239 u240 u241 u242 u243 u244 u245 u246 u247 u248 u249 u250 u251 u252 u253 u254 u255 u256 u257 u258 u259 u260 u261 u262 u263 u264 u265 u266 u267 u268 u269 u270 u271 u272 u273 u274 u275 u276 u277 : Value} (p8 k q n c bb ob y0 y1 y2 y3 : Nat) (vk : Value) (wr : World) (hk : k < 16) (hqn : q + 4 ≤ n) (hn : n ≤ 2000000000) (hy0 : y0 ≤ 255) (hy1 : y1 ≤ 255) (hy2 : y2 ≤ 255) (hy3 : y3 ≤ 255)
    (c0 : wr.cell? ⟨bb, ob + q, none⟩ = some (.int .u8 (y0 : Int))) (c1 : wr.cell? ⟨bb, ob + (q + 1), none⟩ = some (.int .u8 (y1 : Int))) (c2 : wr.cell? ⟨bb, ob + (q + 2), none⟩ = some (.int .u8 (y2 : Int))) (c3 : wr.cell? ⟨bb, ob + (q + 3), none⟩ = some (.int .u8 (y3 : Int)))
    (ck : wr.cell? ⟨p8, k, none⟩ = some vk) (fk : wr.frozen? ⟨p8, k, none⟩ = false)
    (hP : ∀ c (a : Act) (w : World) o v, Q (.panic c) (a.put o v) w → Q (.panic c) a w)
    (hQ : ∀ (x69 x70 x71 x72 x73 x74 x75 x76 x77 x78 x79 x80 x81 x82 x83 x84 x85 x86 x87 x88 x89 x90 x91 x92 x93 x94 x95 x96 x97 x98 x99 : Value)  (w1 : World), (w1 = (wr.setCell ⟨p8, k, none⟩ (.int .u32 (bits .or .u32 (bits .or .u32 (bits .or .u32 ((y0 : Int) * 16777216) ((y1 : Int) * 65536)) ((y2 : Int) * 256)) (y3 : Int)))).drew) → Q .normal ⟨(u0 :: u1 :: u2 :: u3 :: u4 :: (.slice (some ⟨bb, ob, none⟩) n c) :: u6 :: u7 :: (.pointer (some ⟨p8, 0, none⟩)) :: u9 :: (.int .i64 (k : Int)) :: (.int .i64 (q : Int)) :: u12 :: u13 :: u14 :: u15 :: u16 :: u17 :: u18 :: u19 :: u20 :: u21 :: u22 :: u23 :: u24 :: u25 :: u26 :: u27 :: u28 :: u29 :: u30 :: u31 :: u32 :: u33 :: u34 :: u35 :: u36 :: u37 :: u38 :: u39 :: u40 :: u41 :: u42 :: u43 :: u44 :: u45 :: u46 :: u47 :: u48 :: u49 :: u50 :: u51 :: u52 :: u53 :: u54 :: u55 :: u56 :: u57 :: u58 :: u59 :: u60 :: u61 :: u62 :: u63 :: u64 :: u65 :: u66 :: u67 :: u68 :: x69 :: x70 :: x71 :: x72 :: x73 :: x74 :: x75 :: x76 :: x77 :: x78 :: x79 :: x80 :: x81 :: x82 :: x83 :: x84 :: x85 :: x86 :: x87 :: x88 :: x89 :: x90 :: x91 :: x92 :: x93 :: x94 :: x95 :: x96 :: x97 :: x98 :: x99 :: u100 :: u101 :: u102 :: u103 :: u104 :: u105 :: u106 :: u107 :: u108 :: u109 :: u110 :: u111 :: u112 :: u113 :: u114 :: u115 :: u116 :: u117 :: u118 :: u119 :: u120 :: u121 :: u122 :: u123 :: u124 :: u125 :: u126 :: u127 :: u128 :: u129 :: u130 :: u131 :: u132 :: u133 :: u134 :: u135 :: u136 :: u137 :: u138 :: u139 :: u140 :: u141 :: u142 :: u143 :: u144 :: u145 :: u146 :: u147 :: u148 :: u149 :: u150 :: u151 :: u152 :: u153 :: u154 :: u155 :: u156 :: u157 :: u158 :: u159 :: u160 :: u161 :: u162 :: u163 :: u164 :: u165 :: u166 :: u167 :: u168 :: u169 :: u170 :: u171 :: u172 :: u173 :: u174 :: u175 :: u176 :: u177 :: u178 :: u179 :: u180 :: u181 :: u182 :: u183 :: u184 :: u185 :: u186 :: u187 :: u188 :: u189 :: u190 :: u191 :: u192 :: u193 :: u194 :: u195 :: u196 :: u197 :: u198 :: u199 :: u200 :: u201 :: u202 :: u203 :: u204 :: u205 :: u206 :: u207 :: u208 :: u209 :: u210 :: u211 :: u212 :: u213 :: u214 :: u215 :: u216 :: u217 :: u218 :: u219 :: u220 :: u221 :: u222 :: u223 :: u224 :: u225 :: u226 :: u227 :: u228 :: u229 :: u230 :: u231 :: u232 :: u233 :: u234 :: u235 :: u236 :: u237 :: u238 :: u239 :: u240 :: u241 :: u242 :: u243 :: u244 :: u245 :: u246 :: u247 :: u248 :: u249 :: u250 :: u251 :: u252 :: u253 :: u254 :: u255 :: u256 :: u257 :: u258 :: u259 :: u260 :: u261 :: u262 :: u263 :: u264 :: u265 :: u266 :: u267 :: u268 :: u269 :: u270 :: u271 :: u272 :: u273 :: u274 :: u275 :: u276 :: u277 :: []).toArray, []⟩ w1) :
    Code.wp Tryz.prog ((Tryz.f65.body.bind (codeRegion 20)).getD .skip) Q ⟨(u0 :: u1 :: u2 :: u3 :: u4 :: (.slice (some ⟨bb, ob, none⟩) n c) :: u6 :: u7 :: (.pointer (some ⟨p8, 0, none⟩)) :: u9 :: (.int .i64 (k : Int)) :: (.int .i64 (q : Int)) :: u12 :: u13 :: u14 :: u15 :: u16 :: u17 :: u18 :: u19 :: u20 :: u21 :: u22 :: u23 :: u24 :: u25 :: u26 :: u27 :: u28 :: u29 :: u30 :: u31 :: u32 :: u33 :: u34 :: u35 :: u36 :: u37 :: u38 :: u39 :: u40 :: u41 :: u42 :: u43 :: u44 :: u45 :: u46 :: u47 :: u48 :: u49 :: u50 :: u51 :: u52 :: u53 :: u54 :: u55 :: u56 :: u57 :: u58 :: u59 :: u60 :: u61 :: u62 :: u63 :: u64 :: u65 :: u66 :: u67 :: u68 :: u69 :: u70 :: u71 :: u72 :: u73 :: u74 :: u75 :: u76 :: u77 :: u78 :: u79 :: u80 :: u81 :: u82 :: u83 :: u84 :: u85 :: u86 :: u87 :: u88 :: u89 :: u90 :: u91 :: u92 :: u93 :: u94 :: u95 :: u96 :: u97 :: u98 :: u99 :: u100 :: u101 :: u102 :: u103 :: u104 :: u105 :: u106 :: u107 :: u108 :: u109 :: u110 :: u111 :: u112 :: u113 :: u114 :: u115 :: u116 :: u117 :: u118 :: u119 :: u120 :: u121 :: u122 :: u123 :: u124 :: u125 :: u126 :: u127 :: u128 :: u129 :: u130 :: u131 :: u132 :: u133 :: u134 :: u135 :: u136 :: u137 :: u138 :: u139 :: u140 :: u141 :: u142 :: u143 :: u144 :: u145 :: u146 :: u147 :: u148 :: u149 :: u150 :: u151 :: u152 :: u153 :: u154 :: u155 :: u156 :: u157 :: u158 :: u159 :: u160 :: u161 :: u162 :: u163 :: u164 :: u165 :: u166 :: u167 :: u168 :: u169 :: u170 :: u171 :: u172 :: u173 :: u174 :: u175 :: u176 :: u177 :: u178 :: u179 :: u180 :: u181 :: u182 :: u183 :: u184 :: u185 :: u186 :: u187 :: u188 :: u189 :: u190 :: u191 :: u192 :: u193 :: u194 :: u195 :: u196 :: u197 :: u198 :: u199 :: u200 :: u201 :: u202 :: u203 :: u204 :: u205 :: u206 :: u207 :: u208 :: u209 :: u210 :: u211 :: u212 :: u213 :: u214 :: u215 :: u216 :: u217 :: u218 :: u219 :: u220 :: u221 :: u222 :: u223 :: u224 :: u225 :: u226 :: u227 :: u228 :: u229 :: u230 :: u231 :: u232 :: u233 :: u234 :: u235 :: u236 :: u237 :: u238 :: u239 :: u240 :: u241 :: u242 :: u243 :: u244 :: u245 :: u246 :: u247 :: u248 :: u249 :: u250 :: u251 :: u252 :: u253 :: u254 :: u255 :: u256 :: u257 :: u258 :: u259 :: u260 :: u261 :: u262 :: u263 :: u264 :: u265 :: u266 :: u267 :: u268 :: u269 :: u270 :: u271 :: u272 :: u273 :: u274 :: u275 :: u276 :: u277 :: []).toArray, []⟩ wr := by
  have HQ := Lib.hid hQ
  have HPP := Lib.hid hP
  clear hQ hP
  conv => arg 2; whnf
  have qk : (k : Int) < 64 := by omega
  have ha0 : 0 ≤ (q : Int) := by omega
  have hb0 : (q : Int) < (n : Int) := by omega
  have hu0 : IntKind.u32.wrap (y0 : Int) = (y0 : Int) := by rw [IntKind.wrap_u32]; omega
  have hx0 : (y0 : Int) ≤ 255 := by omega
  have hv0 : IntKind.u32.wrap ((y0 : Int) * 16777216) = (y0 : Int) * 16777216 := by rw [IntKind.wrap_u32]; omega
  have ha1 : 0 ≤ (q : Int) + 1 := by omega
  have hb1 : (q : Int) + 1 < (n : Int) := by omega
  have hu1 : IntKind.u32.wrap (y1 : Int) = (y1 : Int) := by rw [IntKind.wrap_u32]; omega
  have hx1 : (y1 : Int) ≤ 255 := by omega
  have hw1 : IntKind.i64.wrap ((q : Int) + 1) = (q : Int) + 1 := IntWalk.i64_in _ (by omega)
  have he1 : ((q : Int) + 1).toNat = q + 1 := by omega
  have hv1 : IntKind.u32.wrap ((y1 : Int) * 65536) = (y1 : Int) * 65536 := by rw [IntKind.wrap_u32]; omega
  have ha2 : 0 ≤ (q : Int) + 2 := by omega
  have hb2 : (q : Int) + 2 < (n : Int) := by omega
  have hu2 : IntKind.u32.wrap (y2 : Int) = (y2 : Int) := by rw [IntKind.wrap_u32]; omega
  have hx2 : (y2 : Int) ≤ 255 := by omega
  have hw2 : IntKind.i64.wrap ((q : Int) + 2) = (q : Int) + 2 := IntWalk.i64_in _ (by omega)
  have he2 : ((q : Int) + 2).toNat = q + 2 := by omega
  have hv2 : IntKind.u32.wrap ((y2 : Int) * 256) = (y2 : Int) * 256 := by rw [IntKind.wrap_u32]; omega
  have ha3 : 0 ≤ (q : Int) + 3 := by omega
  have hb3 : (q : Int) + 3 < (n : Int) := by omega
  have hu3 : IntKind.u32.wrap (y3 : Int) = (y3 : Int) := by rw [IntKind.wrap_u32]; omega
  have hx3 : (y3 : Int) ≤ 255 := by omega
  have hw3 : IntKind.i64.wrap ((q : Int) + 3) = (q : Int) + 3 := IntWalk.i64_in _ (by omega)
  have he3 : ((q : Int) + 3).toNat = q + 3 := by omega
  have hT : Turns [] wr wr.drew := (Turns.refl _ _).drew
  clear hqn
  refine rk0 (fun _ => True) (fun W => Turns [] wr W) 31 32 ?_
  refine rkA 0 69 1 (v := ?_) ?_ (.mk' trivial hT) ?_ (hQ := fun _ _ _ h => HPP.out _ _ _ _ _ h)
  rotate_left
  · intro W hS; go_simp; all_goals with_reducible rfl
  try simp only [sI, sS, sZ]
  refine rkA 1 70 3 (v := ?_) ?_ (.mk' trivial hT) ?_ (hQ := fun _ _ _ h => HPP.out _ _ _ _ _ h)
  rotate_left
  · intro W hS; go_simp; all_goals with_reducible rfl
  try simp only [sI, sS, sZ]
  refine rkA 2 71 7 (v := ?_) ?_ (.mk' trivial hT) ?_ (hQ := fun _ _ _ h => HPP.out _ _ _ _ _ h)
  rotate_left
  · intro W hS; go_simp; all_goals with_reducible rfl
  try simp only [sI, sS, sZ]
  refine rkA 3 72 15 (v := ?_) ?_ (.mk' trivial hT) ?_ (hQ := fun _ _ _ h => HPP.out _ _ _ _ _ h)
  rotate_left
  · intro W hS; go_simp; all_goals with_reducible rfl
  try simp only [sI, sS, sZ]
  refine rkT 4 73 31 (v := ?_) ?_ (.mk' trivial hT) ?_ (hQ := fun _ _ _ h => HPP.out _ _ _ _ _ h)
  rotate_left
  · rintro W ⟨-, hS⟩; have c2 := cellL hS c0 (by simp); go_simp; all_goals with_reducible rfl
  try simp only [sI, sS, sZ]
  refine rkA 5 74 63 (v := ?_) ?_ (.mk' trivial hT) ?_ (hQ := fun _ _ _ h => HPP.out _ _ _ _ _ h)
  rotate_left
  · intro W hS; go_simp; all_goals with_reducible rfl
  try simp only [sI, sS, sZ]
  refine rkA 6 75 127 (v := ?_) ?_ (.mk' trivial hT) ?_ (hQ := fun _ _ _ h => HPP.out _ _ _ _ _ h)
  rotate_left
  · intro W hS; go_simp; all_goals with_reducible rfl
  try simp only [sI, sS, sZ]
  refine rkA 7 76 255 (v := ?_) ?_ (.mk' trivial hT) ?_ (hQ := fun _ _ _ h => HPP.out _ _ _ _ _ h)
  rotate_left
  · intro W hS; go_simp; all_goals with_reducible rfl
  try simp only [sI, sS, sZ]
  refine rkA 8 77 511 (v := ?_) ?_ (.mk' trivial hT) ?_ (hQ := fun _ _ _ h => HPP.out _ _ _ _ _ h)
  rotate_left
  · intro W hS; go_simp; all_goals with_reducible rfl
  try simp only [sI, sS, sZ]
  refine rkA 9 78 1023 (v := ?_) ?_ (.mk' trivial hT) ?_ (hQ := fun _ _ _ h => HPP.out _ _ _ _ _ h)
  rotate_left
  · intro W hS; go_simp; all_goals with_reducible rfl
  try simp only [sI, sS, sZ]
  refine rkA 10 79 2047 (v := ?_) ?_ (.mk' trivial hT) ?_ (hQ := fun _ _ _ h => HPP.out _ _ _ _ _ h)
  rotate_left
  · intro W hS; go_simp; all_goals with_reducible rfl
  try simp only [sI, sS, sZ]
  refine rkT 11 80 4095 (v := ?_) ?_ (.mk' trivial hT) ?_ (hQ := fun _ _ _ h => HPP.out _ _ _ _ _ h)
  rotate_left
  · rintro W ⟨-, hS⟩; have c2 := cellL hS c1 (by simp); go_simp; all_goals with_reducible rfl
  try simp only [sI, sS, sZ]
  refine rkA 12 81 8191 (v := ?_) ?_ (.mk' trivial hT) ?_ (hQ := fun _ _ _ h => HPP.out _ _ _ _ _ h)
  rotate_left
  · intro W hS; go_simp; all_goals with_reducible rfl
  try simp only [sI, sS, sZ]
  refine rkA 13 82 16383 (v := ?_) ?_ (.mk' trivial hT) ?_ (hQ := fun _ _ _ h => HPP.out _ _ _ _ _ h)
  rotate_left
  · intro W hS; go_simp; all_goals with_reducible rfl
  try simp only [sI, sS, sZ]
  refine rkA 14 83 32767 (v := ?_) ?_ (.mk' trivial hT) ?_ (hQ := fun _ _ _ h => HPP.out _ _ _ _ _ h)
  rotate_left
  · intro W hS; go_simp; all_goals with_reducible rfl
  try simp only [sI, sS, sZ]
  refine rkA 15 84 65535 (v := ?_) ?_ (.mk' trivial hT) ?_ (hQ := fun _ _ _ h => HPP.out _ _ _ _ _ h)
  rotate_left
  · intro W hS; go_simp; all_goals with_reducible rfl
  try simp only [sI, sS, sZ]
  refine rkA 16 85 131071 (v := ?_) ?_ (.mk' trivial hT) ?_ (hQ := fun _ _ _ h => HPP.out _ _ _ _ _ h)
  rotate_left
  · intro W hS; go_simp; all_goals with_reducible rfl
  try simp only [sI, sS, sZ]
  refine rkA 17 86 262143 (v := ?_) ?_ (.mk' trivial hT) ?_ (hQ := fun _ _ _ h => HPP.out _ _ _ _ _ h)
  rotate_left
  · intro W hS; go_simp; all_goals with_reducible rfl
  try simp only [sI, sS, sZ]
  refine rkA 18 87 524287 (v := ?_) ?_ (.mk' trivial hT) ?_ (hQ := fun _ _ _ h => HPP.out _ _ _ _ _ h)
  rotate_left
  · intro W hS; go_simp; all_goals with_reducible rfl
  try simp only [sI, sS, sZ]
  refine rkT 19 88 1048575 (v := ?_) ?_ (.mk' trivial hT) ?_ (hQ := fun _ _ _ h => HPP.out _ _ _ _ _ h)
  rotate_left
  · rintro W ⟨-, hS⟩; have c2 := cellL hS c2 (by simp); go_simp; all_goals with_reducible rfl
  try simp only [sI, sS, sZ]
  refine rkA 20 89 2097151 (v := ?_) ?_ (.mk' trivial hT) ?_ (hQ := fun _ _ _ h => HPP.out _ _ _ _ _ h)
  rotate_left
  · intro W hS; go_simp; all_goals with_reducible rfl
  try simp only [sI, sS, sZ]
  refine rkA 21 90 4194303 (v := ?_) ?_ (.mk' trivial hT) ?_ (hQ := fun _ _ _ h => HPP.out _ _ _ _ _ h)
  rotate_left
  · intro W hS; go_simp; all_goals with_reducible rfl
  try simp only [sI, sS, sZ]
  refine rkA 22 91 8388607 (v := ?_) ?_ (.mk' trivial hT) ?_ (hQ := fun _ _ _ h => HPP.out _ _ _ _ _ h)
  rotate_left
  · intro W hS; go_simp; all_goals with_reducible rfl
  try simp only [sI, sS, sZ]
  refine rkA 23 92 16777215 (v := ?_) ?_ (.mk' trivial hT) ?_ (hQ := fun _ _ _ h => HPP.out _ _ _ _ _ h)
  rotate_left
  · intro W hS; go_simp; all_goals with_reducible rfl
  try simp only [sI, sS, sZ]
  refine rkA 24 93 33554431 (v := ?_) ?_ (.mk' trivial hT) ?_ (hQ := fun _ _ _ h => HPP.out _ _ _ _ _ h)
  rotate_left
  · intro W hS; go_simp; all_goals with_reducible rfl
  try simp only [sI, sS, sZ]
  refine rkA 25 94 67108863 (v := ?_) ?_ (.mk' trivial hT) ?_ (hQ := fun _ _ _ h => HPP.out _ _ _ _ _ h)
  rotate_left
  · intro W hS; go_simp; all_goals with_reducible rfl
  try simp only [sI, sS, sZ]
  refine rkA 26 95 134217727 (v := ?_) ?_ (.mk' trivial hT) ?_ (hQ := fun _ _ _ h => HPP.out _ _ _ _ _ h)
  rotate_left
  · intro W hS; go_simp; all_goals with_reducible rfl
  try simp only [sI, sS, sZ]
  refine rkT 27 96 268435455 (v := ?_) ?_ (.mk' trivial hT) ?_ (hQ := fun _ _ _ h => HPP.out _ _ _ _ _ h)
  rotate_left
  · rintro W ⟨-, hS⟩; have c2 := cellL hS c3 (by simp); go_simp; all_goals with_reducible rfl
  try simp only [sI, sS, sZ]
  refine rkA 28 97 536870911 (v := ?_) ?_ (.mk' trivial hT) ?_ (hQ := fun _ _ _ h => HPP.out _ _ _ _ _ h)
  rotate_left
  · intro W hS; go_simp; all_goals with_reducible rfl
  try simp only [sI, sS, sZ]
  refine rkA 29 98 1073741823 (v := ?_) ?_ (.mk' trivial hT) ?_ (hQ := fun _ _ _ h => HPP.out _ _ _ _ _ h)
  rotate_left
  · intro W hS; go_simp; all_goals with_reducible rfl
  try simp only [sI, sS, sZ]
  refine rkA 30 99 2147483647 (v := ?_) ?_ (.mk' trivial hT) ?_ (hQ := fun _ _ _ h => HPP.out _ _ _ _ _ h)
  rotate_left
  · intro W hS; go_simp; all_goals with_reducible rfl
  try simp only [sI, sS, sZ]
  refine rk1 31 4294967295 (fun K hK => ?_)
  go_simp
  refine hK _ _ (.p trivial) ?_
  clear hK K
  try simp only [sI, sS, sZ]
  refine rkZ ?_
  exact HQ.out _ _ _ _ _ _ _ _ _ _ _ _ _ _ _ _ _ _ _ _ _ _ _ _ _ _ _ _ _ _ _ _ rfl
end Go.Proofs.YtoahnhphfabajaaGreat
namespace Go.Proofs.YtoahnhphfabajaaGreat
set_option maxRecDepth 10000
open Go.RowKit
set_option linter.unusedVariables false
set_option linter.unusedSimpArgs false
set_option linter.unnecessarySimpa false

theorem getD_drop (d : List UInt8) (p j : Nat) : (d.drop p).getD j 0 = d.getD (p + j) 0 := by simp [List.getD, List.getElem?_drop]
set_option maxRecDepth 1000000 in
set_option maxHeartbeats 4000000 in
theorem ref_L6 {Q : Exit → Act → World → Prop} {u0 u1 u2 u3 u4 u6 u7 u11 u12 u13 u14 u15 u16 u17 u18 u19 u20 u21 u22 u23 u24 u25 u26 u27 u28 u29 u30 u31 u32 u33 u34 u35 u36 u37 u38 u39 u40 u41 u42 u43 u44 u45 u46 u47 u48 u49 u50 u51 u52 u53 u54 u55 u56 u57 u58 u59 u60 u61 u62 u63 u64 u65 u66 u67 u68 u69 u70 u71 u72 u73 u74 u75 u76 u77 u78 u79 u80 u81 u82 u83 u84 u85 u86 u87 u88 u89 u90 u91 u92 u93 u94 u95 u96 u97 u98 u99 u100 u101 u102 u103 u104 u105 u106 u107 u108 u109 u110 u111 u112 u113 u114 u115 u116 u117 u118 u119 u120 u121 u122 u123 u124 u125 u126 u127 u128 u129 u130 u131 u132 u133 u134 u135 u136 u137 u138 u139 u140 u141 u142 u143 u144 u145 u146 u147 u148 u149 u150 u151 u152 u153 u154 u155 u156 u157 u158 u159 u160 u161 u162 u163 u164 u165 u166 u167 u168 u169 u170 u171 u172 u173 u174 u175 u176 u177 u178 u179 u180 u181 u182 u183 u184 u185 u186 u187 u188 u189 u190 u191 u192 u193 u194 u195 u196 u197 u198 u199 u200 u201 u202 u203 u204 u205 u206 u207 u208 u209 u210 u211 u212 u213 u214 u215 u216 u217 u218 u219 u220 u221 u222 u223 u224 u225 u226 u227 u228 u229 u230 u231 u232 u233 u234 u235 u236 u237 u238 u239 u240 u241 u242 u243 u244 u245 u246 u247 u248 u249 u250 u251 u252 u253 u254 u255 u256 u257 u258 u259 u260 u261 u262 u263 u264 u265 u266 u267 u268 u269 u270 u271 u272 u273 u274 u275 u276 u277 : Value} (p8 p n c bb ob : Nat) (d : List UInt8) (l : List UInt32) (w : World) (hpn : p + 64 ≤ n) (hn : n ≤ 2000000000) (hl : l.length = 64) (hne : bb ≠ p8) (hb : Blk w p8 (u32s l) 165)
    (hby : ∀ j, j < n → w.cell? ⟨bb, ob + j, none⟩ = some (.int .u8 ((d.getD j 0).toNat : Int)))
    (hP : ∀ c (a : Act) (w : World) o v, Q (.panic c) (a.put o v) w → Q (.panic c) a w)
    (hQ : ∀ (x10 x11 x61 x62 x63 x64 x65 x66 x67 x68 x69 x70 x71 x72 x73 x74 x75 x76 x77 x78 x79 x80 x81 x82 x83 x84 x85 x86 x87 x88 x89 x90 x91 x92 x93 x94 x95 x96 x97 x98 x99 : Value)  (w1 : World), (Blk w1 p8 (u32s (spreadTo (d.drop p) 16 l)) 165 ∧ Turns [p8] w w1) → Q .normal ⟨(u0 :: u1 :: u2 :: u3 :: u4 :: (.slice (some ⟨bb, ob, none⟩) n c) :: u6 :: u7 :: (.pointer (some ⟨p8, 0, none⟩)) :: (.int .i64 (p : Int)) :: x10 :: x11 :: u12 :: u13 :: u14 :: u15 :: u16 :: u17 :: u18 :: u19 :: u20 :: u21 :: u22 :: u23 :: u24 :: u25 :: u26 :: u27 :: u28 :: u29 :: u30 :: u31 :: u32 :: u33 :: u34 :: u35 :: u36 :: u37 :: u38 :: u39 :: u40 :: u41 :: u42 :: u43 :: u44 :: u45 :: u46 :: u47 :: u48 :: u49 :: u50 :: u51 :: u52 :: u53 :: u54 :: u55 :: u56 :: u57 :: u58 :: u59 :: u60 :: x61 :: x62 :: x63 :: x64 :: x65 :: x66 :: x67 :: x68 :: x69 :: x70 :: x71 :: x72 :: x73 :: x74 :: x75 :: x76 :: x77 :: x78 :: x79 :: x80 :: x81 :: x82 :: x83 :: x84 :: x85 :: x86 :: x87 :: x88 :: x89 :: x90 :: x91 :: x92 :: x93 :: x94 :: x95 :: x96 :: x97 :: x98 :: x99 :: u100 :: u101 :: u102 :: u103 :: u104 :: u105 :: u106 :: u107 :: u108 :: u109 :: u110 :: u111 :: u112 :: u113 :: u114 :: u115 :: u116 :: u117 :: u118 :: u119 :: u120 :: u121 :: u122 :: u123 :: u124 :: u125 :: u126 :: u127 :: u128 :: u129 :: u130 :: u131 :: u132 :: u133 :: u134 :: u135 :: u136 :: u137 :: u138 :: u139 :: u140 :: u141 :: u142 :: u143 :: u144 :: u145 :: u146 :: u147 :: u148 :: u149 :: u150 :: u151 :: u152 :: u153 :: u154 :: u155 :: u156 :: u157 :: u158 :: u159 :: u160 :: u161 :: u162 :: u163 :: u164 :: u165 :: u166 :: u167 :: u168 :: u169 :: u170 :: u171 :: u172 :: u173 :: u174 :: u175 :: u176 :: u177 :: u178 :: u179 :: u180 :: u181 :: u182 :: u183 :: u184 :: u185 :: u186 :: u187 :: u188 :: u189 :: u190 :: u191 :: u192 :: u193 :: u194 :: u195 :: u196 :: u197 :: u198 :: u199 :: u200 :: u201 :: u202 :: u203 :: u204 :: u205 :: u206 :: u207 :: u208 :: u209 :: u210 :: u211 :: u212 :: u213 :: u214 :: u215 :: u216 :: u217 :: u218 :: u219 :: u220 :: u221 :: u222 :: u223 :: u224 :: u225 :: u226 :: u227 :: u228 :: u229 :: u230 :: u231 :: u232 :: u233 :: u234 :: u235 :: u236 :: u237 :: u238 :: u239 :: u240 :: u241 :: u242 :: u243 :: u244 :: u245 :: u246 :: u247 :: u248 :: u249 :: u250 :: u251 :: u252 :: u253 :: u254 :: u255 :: u256 :: u257 :: u258 :: u259 :: u260 :: u261 :: u262 :: u263 :: u264 :: u265 :: u266 :: u267 :: u268 :: u269 :: u270 :: u271 :: u272 :: u273 :: u274 :: u275 :: u276 :: u277 :: []).toArray, []⟩ w1) :
    Code.wp Tryz.prog ((Tryz.f65.body.bind (codeBlock 6)).getD .skip) Q ⟨(u0 :: u1 :: u2 :: u3 :: u4 :: (.slice (some ⟨bb, ob, none⟩) n c) :: u6 :: u7 :: (.pointer (some ⟨p8, 0, none⟩)) :: (.int .i64 (p : Int)) :: (.int .i64 0) :: u11 :: u12 :: u13 :: u14 :: u15 :: u16 :: u17 :: u18 :: u19 :: u20 :: u21 :: u22 :: u23 :: u24 :: u25 :: u26 :: u27 :: u28 :: u29 :: u30 :: u31 :: u32 :: u33 :: u34 :: u35 :: u36 :: u37 :: u38 :: u39 :: u40 :: u41 :: u42 :: u43 :: u44 :: u45 :: u46 :: u47 :: u48 :: u49 :: u50 :: u51 :: u52 :: u53 :: u54 :: u55 :: u56 :: u57 :: u58 :: u59 :: u60 :: u61 :: u62 :: u63 :: u64 :: u65 :: u66 :: u67 :: u68 :: u69 :: u70 :: u71 :: u72 :: u73 :: u74 :: u75 :: u76 :: u77 :: u78 :: u79 :: u80 :: u81 :: u82 :: u83 :: u84 :: u85 :: u86 :: u87 :: u88 :: u89 :: u90 :: u91 :: u92 :: u93 :: u94 :: u95 :: u96 :: u97 :: u98 :: u99 :: u100 :: u101 :: u102 :: u103 :: u104 :: u105 :: u106 :: u107 :: u108 :: u109 :: u110 :: u111 :: u112 :: u113 :: u114 :: u115 :: u116 :: u117 :: u118 :: u119 :: u120 :: u121 :: u122 :: u123 :: u124 :: u125 :: u126 :: u127 :: u128 :: u129 :: u130 :: u131 :: u132 :: u133 :: u134 :: u135 :: u136 :: u137 :: u138 :: u139 :: u140 :: u141 :: u142 :: u143 :: u144 :: u145 :: u146 :: u147 :: u148 :: u149 :: u150 :: u151 :: u152 :: u153 :: u154 :: u155 :: u156 :: u157 :: u158 :: u159 :: u160 :: u161 :: u162 :: u163 :: u164 :: u165 :: u166 :: u167 :: u168 :: u169 :: u170 :: u171 :: u172 :: u173 :: u174 :: u175 :: u176 :: u177 :: u178 :: u179 :: u180 :: u181 :: u182 :: u183 :: u184 :: u185 :: u186 :: u187 :: u188 :: u189 :: u190 :: u191 :: u192 :: u193 :: u194 :: u195 :: u196 :: u197 :: u198 :: u199 :: u200 :: u201 :: u202 :: u203 :: u204 :: u205 :: u206 :: u207 :: u208 :: u209 :: u210 :: u211 :: u212 :: u213 :: u214 :: u215 :: u216 :: u217 :: u218 :: u219 :: u220 :: u221 :: u222 :: u223 :: u224 :: u225 :: u226 :: u227 :: u228 :: u229 :: u230 :: u231 :: u232 :: u233 :: u234 :: u235 :: u236 :: u237 :: u238 :: u239 :: u240 :: u241 :: u242 :: u243 :: u244 :: u245 :: u246 :: u247 :: u248 :: u249 :: u250 :: u251 :: u252 :: u253 :: u254 :: u255 :: u256 :: u257 :: u258 :: u259 :: u260 :: u261 :: u262 :: u263 :: u264 :: u265 :: u266 :: u267 :: u268 :: u269 :: u270 :: u271 :: u272 :: u273 :: u274 :: u275 :: u276 :: u277 :: []).toArray, []⟩ w := by
  have HQ := Lib.hid hQ
  have HPP := Lib.hid hP
  clear hQ hP
  conv => arg 2; whnf
  have HB := Lib.hid (And.intro hby (And.intro hl (And.intro hne hpn)))
  have H0 := Lib.hid hb
  have hp1 : (p : Int) ≤ 2000000000 := by omega
  have hn1 : (n : Int) ≤ 2000000000 := by omega
  have HN := Lib.hid hn
  clear hby hb hl hne hpn hn
  go_wp2_with fail
  go_loopw [10] (fun i wr => ∃ k : Nat, k ≤ 16 ∧ i = .int .i64 k ∧ Blk wr p8 (u32s (spreadTo (d.drop p) k l)) 165 ∧ Turns [p8] w wr) (fun i _ => 16 - (intOf i).toNat)
  case atStart => exact ⟨0, by omega, rfl, H0.out, Turns.refl _ _⟩
  case round =>
    obtain ⟨k, hk, rfl, v3, td⟩ := hrel
    by_cases hlt : k < 16
    · have hlen : (spreadTo (d.drop p) k l).length = 64 := by rw [spreadTo_len]; exact HB.out.2.1
      have c3 := v3.cell k
      have f3 := v3.free k
      rw [u32s_get _ _ (by omega)] at c3
      have hpn := HB.out.2.2.2
      have hne := HB.out.2.2.1
      have q0 := cellL td (HB.out.1 (p + 4 * k) (by omega)) (by simpa using hne)
      have q1 := cellL td (HB.out.1 (p + 4 * k + 1) (by omega)) (by simpa using hne)
      have q2 := cellL td (HB.out.1 (p + 4 * k + 2) (by omega)) (by simpa using hne)
      have q3 := cellL td (HB.out.1 (p + 4 * k + 3) (by omega)) (by simpa using hne)
      have b0 := (d.getD (p + 4 * k) 0).toNat_lt
      have b1 := (d.getD (p + 4 * k + 1) 0).toNat_lt
      have b2 := (d.getD (p + 4 * k + 2) 0).toNat_lt
      have b3 := (d.getD (p + 4 * k + 3) 0).toNat_lt
      have hki : (k : Int) < 16 := by omega
      have HV := Lib.hid (And.intro v3 td)
      have QS := Lib.hid (And.intro (And.intro q0 (And.intro q1 (And.intro q2 q3))) (And.intro (And.intro b0 (And.intro b1 (And.intro b2 b3))) (And.intro c3 f3)))
      clear v3 td q0 q1 q2 q3 b0 b1 b2 b3 c3 f3 hlen hpn hne
      go_upto_region 20 with fail
      rw [show (p : Int) + 4 * (k : Int) = ((p + 4 * k : Nat) : Int) by omega]
      refine ref_R20 p8 k (p + 4 * k) n c bb ob _ _ _ _ _ wr hlt (by have := HB.out.2.2.2; omega) HN.out ?_ ?_ ?_ ?_ QS.out.1.1 QS.out.1.2.1 QS.out.1.2.2.1 QS.out.1.2.2.2 QS.out.2.2.1 QS.out.2.2.2 (fun _ _ _ _ _ h => HPP.out _ _ _ _ _ h) ?_
      · have := QS.out.2.1.1; omega
      · have := QS.out.2.1.2.1; omega
      · have := QS.out.2.1.2.2.1; omega
      · have := QS.out.2.1.2.2.2; omega
      intro y69 y70 y71 y72 y73 y74 y75 y76 y77 y78 y79 y80 y81 y82 y83 y84 y85 y86 y87 y88 y89 y90 y91 y92 y93 y94 y95 y96 y97 y98 y99 w1 hw1
      subst hw1
      have hwd := word_or (d.drop p) k
      simp only [getD_drop, ← Nat.add_assoc] at hwd
      rw [hwd]
      obtain ⟨v3, td⟩ := HV.out
      have v3z := (v3.set k (.int .u32 ((word32 (d.drop p) k).toNat : Int))).drew
      rw [u32s_set] at v3z
      have hst : spreadTo (d.drop p) (k + 1) l = (spreadTo (d.drop p) k l).set k (word32 (d.drop p) k) := by rw [spreadTo, if_pos hlt]
      rw [← hst] at v3z
      have tdz := (td.setCell (p := ⟨p8, k, none⟩) (.inl (by simp)) (.int .u32 ((word32 (d.drop p) k).toNat : Int))).drew
      have HF := Lib.hid (And.intro v3z tdz)
      clear v3 td v3z tdz hst hwd
      go_wp2_with fail
      go_roundw
      case rel => exact ⟨k + 1, by omega, by go_num, HF.out.1, HF.out.2⟩
      case measure => (simp [intOf] <;> omega)
    · obtain rfl : k = 16 := by omega
      have HV := Lib.hid (And.intro v3 td)
      have z16 : ¬ ((16 : Nat) : Int) < 16 := by omega
      clear v3 td
      go_wp2_with fail
      exact HQ.out _ _ _ _ _ _ _ _ _ _ _ _ _ _ _ _ _ _ _ _ _ _ _ _ _ _ _ _ _ _ _ _ _ _ _ _ _ _ _ _ _ _ HV.out
end Go.Proofs.YtoahnhphfabajaaGreat
namespace Go.Proofs.YtoahnhphfabajaaGreat
set_option maxRecDepth 10000
open Go.RowKit
set_option linter.unusedVariables false
set_option linter.unusedSimpArgs false
set_option linter.unnecessarySimpa false

set_option maxRecDepth 1000000 in
set_option maxHeartbeats 4000000 in
theorem ref_L8 {Q : Exit → Act → World → Prop} {u0 u1 u2 u3 u4 u5 u6 u7 u9 u10 u11 u13 u14 u15 u16 u17 u18 u19 u20 u21 u22 u23 u24 u25 u26 u27 u28 u29 u30 u31 u32 u33 u34 u35 u36 u37 u38 u39 u40 u41 u42 u43 u44 u45 u46 u47 u48 u49 u50 u51 u52 u53 u54 u55 u56 u57 u58 u59 u60 u61 u62 u63 u64 u65 u66 u67 u68 u69 u70 u71 u72 u73 u74 u75 u76 u77 u78 u79 u80 u81 u82 u83 u84 u85 u86 u87 u88 u89 u90 u91 u92 u93 u94 u95 u96 u97 u98 u99 u100 u101 u102 u103 u104 u105 u106 u107 u108 u109 u110 u111 u112 u113 u114 u115 u116 u117 u118 u119 u120 u121 u122 u123 u124 u125 u126 u127 u128 u129 u130 u131 u132 u133 u134 u135 u136 u137 u138 u139 u140 u141 u142 u143 u144 u145 u146 u147 u148 u149 u150 u151 u152 u153 u154 u155 u156 u157 u158 u159 u160 u161 u162 u163 u164 u165 u166 u167 u168 u169 u170 u171 u172 u173 u174 u175 u176 u177 u178 u179 u180 u181 u182 u183 u184 u185 u186 u187 u188 u189 u190 u191 u192 u193 u194 u195 u196 u197 u198 u199 u200 u201 u202 u203 u204 u205 u206 u207 u208 u209 u210 u211 u212 u213 u214 u215 u216 u217 u218 u219 u220 u221 u222 u223 u224 u225 u226 u227 u228 u229 u230 u231 u232 u233 u234 u235 u236 u237 u238 u239 u240 u241 u242 u243 u244 u245 u246 u247 u248 u249 u250 u251 u252 u253 u254 u255 u256 u257 u258 u259 u260 u261 u262 u263 u264 u265 u266 u267 u268 u269 u270 u271 u272 u273 u274 u275 u276 u277 : Value} (p8 : Nat) (b : List UInt8) (l : List UInt32) (w : World) (hl : l.length = 64) (hb : Blk w p8 (u32s (spreadTo b 16 l)) 165)
    (hP : ∀ c (a : Act) (w : World) o v, Q (.panic c) (a.put o v) w → Q (.panic c) a w)
    (hQ : ∀ (x12 x13 x14 x100 x101 x102 x103 x104 x105 x106 x107 x108 x109 x110 x111 x112 x113 x114 x115 x116 x117 x118 x119 x120 x121 x122 x123 x124 x125 x126 x127 x128 x129 x130 x131 x132 x133 x134 x135 x136 x137 x138 x139 x140 : Value)  (w1 : World), (Blk w1 p8 (u32s (spreadTo b 64 l)) 165 ∧ Turns [p8] w w1) → Q .normal ⟨(u0 :: u1 :: u2 :: u3 :: u4 :: u5 :: u6 :: u7 :: (.pointer (some ⟨p8, 0, none⟩)) :: u9 :: u10 :: u11 :: x12 :: x13 :: x14 :: u15 :: u16 :: u17 :: u18 :: u19 :: u20 :: u21 :: u22 :: u23 :: u24 :: u25 :: u26 :: u27 :: u28 :: u29 :: u30 :: u31 :: u32 :: u33 :: u34 :: u35 :: u36 :: u37 :: u38 :: u39 :: u40 :: u41 :: u42 :: u43 :: u44 :: u45 :: u46 :: u47 :: u48 :: u49 :: u50 :: u51 :: u52 :: u53 :: u54 :: u55 :: u56 :: u57 :: u58 :: u59 :: u60 :: u61 :: u62 :: u63 :: u64 :: u65 :: u66 :: u67 :: u68 :: u69 :: u70 :: u71 :: u72 :: u73 :: u74 :: u75 :: u76 :: u77 :: u78 :: u79 :: u80 :: u81 :: u82 :: u83 :: u84 :: u85 :: u86 :: u87 :: u88 :: u89 :: u90 :: u91 :: u92 :: u93 :: u94 :: u95 :: u96 :: u97 :: u98 :: u99 :: x100 :: x101 :: x102 :: x103 :: x104 :: x105 :: x106 :: x107 :: x108 :: x109 :: x110 :: x111 :: x112 :: x113 :: x114 :: x115 :: x116 :: x117 :: x118 :: x119 :: x120 :: x121 :: x122 :: x123 :: x124 :: x125 :: x126 :: x127 :: x128 :: x129 :: x130 :: x131 :: x132 :: x133 :: x134 :: x135 :: x136 :: x137 :: x138 :: x139 :: x140 :: u141 :: u142 :: u143 :: u144 :: u145 :: u146 :: u147 :: u148 :: u149 :: u150 :: u151 :: u152 :: u153 :: u154 :: u155 :: u156 :: u157 :: u158 :: u159 :: u160 :: u161 :: u162 :: u163 :: u164 :: u165 :: u166 :: u167 :: u168 :: u169 :: u170 :: u171 :: u172 :: u173 :: u174 :: u175 :: u176 :: u177 :: u178 :: u179 :: u180 :: u181 :: u182 :: u183 :: u184 :: u185 :: u186 :: u187 :: u188 :: u189 :: u190 :: u191 :: u192 :: u193 :: u194 :: u195 :: u196 :: u197 :: u198 :: u199 :: u200 :: u201 :: u202 :: u203 :: u204 :: u205 :: u206 :: u207 :: u208 :: u209 :: u210 :: u211 :: u212 :: u213 :: u214 :: u215 :: u216 :: u217 :: u218 :: u219 :: u220 :: u221 :: u222 :: u223 :: u224 :: u225 :: u226 :: u227 :: u228 :: u229 :: u230 :: u231 :: u232 :: u233 :: u234 :: u235 :: u236 :: u237 :: u238 :: u239 :: u240 :: u241 :: u242 :: u243 :: u244 :: u245 :: u246 :: u247 :: u248 :: u249 :: u250 :: u251 :: u252 :: u253 :: u254 :: u255 :: u256 :: u257 :: u258 :: u259 :: u260 :: u261 :: u262 :: u263 :: u264 :: u265 :: u266 :: u267 :: u268 :: u269 :: u270 :: u271 :: u272 :: u273 :: u274 :: u275 :: u276 :: u277 :: []).toArray, []⟩ w1) :
    Code.wp Tryz.prog ((Tryz.f65.body.bind (codeBlock 8)).getD .skip) Q ⟨(u0 :: u1 :: u2 :: u3 :: u4 :: u5 :: u6 :: u7 :: (.pointer (some ⟨p8, 0, none⟩)) :: u9 :: u10 :: u11 :: (.int .i64 16) :: u13 :: u14 :: u15 :: u16 :: u17 :: u18 :: u19 :: u20 :: u21 :: u22 :: u23 :: u24 :: u25 :: u26 :: u27 :: u28 :: u29 :: u30 :: u31 :: u32 :: u33 :: u34 :: u35 :: u36 :: u37 :: u38 :: u39 :: u40 :: u41 :: u42 :: u43 :: u44 :: u45 :: u46 :: u47 :: u48 :: u49 :: u50 :: u51 :: u52 :: u53 :: u54 :: u55 :: u56 :: u57 :: u58 :: u59 :: u60 :: u61 :: u62 :: u63 :: u64 :: u65 :: u66 :: u67 :: u68 :: u69 :: u70 :: u71 :: u72 :: u73 :: u74 :: u75 :: u76 :: u77 :: u78 :: u79 :: u80 :: u81 :: u82 :: u83 :: u84 :: u85 :: u86 :: u87 :: u88 :: u89 :: u90 :: u91 :: u92 :: u93 :: u94 :: u95 :: u96 :: u97 :: u98 :: u99 :: u100 :: u101 :: u102 :: u103 :: u104 :: u105 :: u106 :: u107 :: u108 :: u109 :: u110 :: u111 :: u112 :: u113 :: u114 :: u115 :: u116 :: u117 :: u118 :: u119 :: u120 :: u121 :: u122 :: u123 :: u124 :: u125 :: u126 :: u127 :: u128 :: u129 :: u130 :: u131 :: u132 :: u133 :: u134 :: u135 :: u136 :: u137 :: u138 :: u139 :: u140 :: u141 :: u142 :: u143 :: u144 :: u145 :: u146 :: u147 :: u148 :: u149 :: u150 :: u151 :: u152 :: u153 :: u154 :: u155 :: u156 :: u157 :: u158 :: u159 :: u160 :: u161 :: u162 :: u163 :: u164 :: u165 :: u166 :: u167 :: u168 :: u169 :: u170 :: u171 :: u172 :: u173 :: u174 :: u175 :: u176 :: u177 :: u178 :: u179 :: u180 :: u181 :: u182 :: u183 :: u184 :: u185 :: u186 :: u187 :: u188 :: u189 :: u190 :: u191 :: u192 :: u193 :: u194 :: u195 :: u196 :: u197 :: u198 :: u199 :: u200 :: u201 :: u202 :: u203 :: u204 :: u205 :: u206 :: u207 :: u208 :: u209 :: u210 :: u211 :: u212 :: u213 :: u214 :: u215 :: u216 :: u217 :: u218 :: u219 :: u220 :: u221 :: u222 :: u223 :: u224 :: u225 :: u226 :: u227 :: u228 :: u229 :: u230 :: u231 :: u232 :: u233 :: u234 :: u235 :: u236 :: u237 :: u238 :: u239 :: u240 :: u241 :: u242 :: u243 :: u244 :: u245 :: u246 :: u247 :: u248 :: u249 :: u250 :: u251 :: u252 :: u253 :: u254 :: u255 :: u256 :: u257 :: u258 :: u259 :: u260 :: u261 :: u262 :: u263 :: u264 :: u265 :: u266 :: u267 :: u268 :: u269 :: u270 :: u271 :: u272 :: u273 :: u274 :: u275 :: u276 :: u277 :: []).toArray, []⟩ w := by
  have HQ := Lib.hid hQ
  have HPP := Lib.hid hP
  clear hQ hP
  conv => arg 2; whnf
  have HL := Lib.hid hl
  have H0 := Lib.hid hb
  clear hb hl
  go_wp2_with fail
  go_loopw [12] (fun i wr => ∃ k : Nat, 16 ≤ k ∧ k ≤ 64 ∧ i = .int .i64 k ∧ Blk wr p8 (u32s (spreadTo b k l)) 165 ∧ Turns [p8] w wr) (fun i _ => 64 - (intOf i).toNat)
  case atStart => exact ⟨16, by omega, by omega, rfl, H0.out, Turns.refl _ _⟩
  case round =>
    clear H0
    obtain ⟨k, hk1, hk2, rfl, v3, td⟩ := hrel
    by_cases hlt : k < 64
    · have hlen : (spreadTo b k l).length = 64 := by rw [spreadTo_len]; exact HL.out
      have hst : spreadTo b (k + 1) l = (spreadTo b k l).set k (mix32 (spreadTo b k l) k) := by rw [spreadTo, if_neg (by omega)]
      generalize spreadTo b k l = m at v3 hlen hst
      have c15 := v3.cell (k - 15)
      have c2k := v3.cell (k - 2)
      have c16 := v3.cell (k - 16)
      have c7 := v3.cell (k - 7)
      have ck := v3.cell k
      have fk := v3.free k
      rw [u32s_get m _ (by omega)] at c15 c2k c16 c7 ck
      have hmix : mix32 m k = (ror (m.getD (k - 2) 0) 17 ^^^ ror (m.getD (k - 2) 0) 19 ^^^ shr32 (m.getD (k - 2) 0) 10) + m.getD (k - 7) 0 + (ror (m.getD (k - 15) 0) 7 ^^^ ror (m.getD (k - 15) 0) 18 ^^^ shr32 (m.getD (k - 15) 0) 3) + m.getD (k - 16) 0 := by
        unfold mix32
        dsimp only
        ac_rfl
      have HC := Lib.hid (And.intro (And.intro c15 c2k) (And.intro c16 (And.intro c7 (And.intro ck fk))))
      have HM := Lib.hid (And.intro hst hmix)
      have HV := Lib.hid (And.intro v3 td)
      have hki : (k : Int) < 64 := by omega
      clear c15 c2k c16 c7 ck fk hst hmix v3 td hlen
      go_upto_region 24 with fail
      refine ref_R24 p8 k _ _ wr hk1 hlt HC.out.1.1 HC.out.1.2 (fun _ _ _ _ _ h => HPP.out _ _ _ _ _ h) ?_
      intro y104 y105 y106 y107 y108 y109 y110 y111 w1 hw1
      subst hw1
      go_upto_region 25 with fail
      refine ref_R25 p8 k _ _ _ _ _ wr.drew hk1 hlt HC.out.2.2.1 HC.out.2.1 HC.out.2.2.2.1 HC.out.2.2.2.2 (fun _ _ _ _ _ h => HPP.out _ _ _ _ _ h) ?_
      intro y112 y113 y114 y115 y116 y117 y118 y119 y120 y121 y122 y123 y124 y125 y126 y127 y128 y129 y130 y131 y132 y133 y134 y135 y136 y137 y138 y139 y140 w1 hw1
      subst hw1
      rw [← HM.out.2]
      obtain ⟨v3, td⟩ := HV.out
      have v3z := (v3.drew.set k (.int .u32 ((mix32 m k).toNat : Int))).drew
      rw [u32s_set, ← HM.out.1] at v3z
      have tdz := (td.drew.setCell (p := ⟨p8, k, none⟩) (.inl (by simp)) (.int .u32 ((mix32 m k).toNat : Int))).drew
      have HF := Lib.hid (And.intro v3z tdz)
      clear v3 td v3z tdz
      go_wp2_with fail
      go_roundw
      case rel => exact ⟨k + 1, by omega, by omega, by go_num, HF.out.1, HF.out.2⟩
      case measure => (simp [intOf] <;> omega)
    · obtain rfl : k = 64 := by omega
      have z64 : ¬ ((64 : Nat) : Int) < 64 := by omega
      have HV := Lib.hid (And.intro v3 td)
      clear v3 td
      go_wp2_with fail
      exact HQ.out _ _ _ _ _ _ _ _ _ _ _ _ _ _ _ _ _ _ _ _ _ _ _ _ _ _ _ _ _ _ _ _ _ _ _ _ _ _ _ _ _ _ _ _ _ HV.out
end Go.Proofs.YtoahnhphfabajaaGreat
