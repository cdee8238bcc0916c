/- The reference's sum, piece by piece: its turned words, a word for a round. -/
import Derived.Test.YtibolcekhdapaaaSha8
import Derived.Deep.DeepCutAuto
import Derived.Deep.CutBlock
namespace Go.Proofs.Ytibolcekhdapaaa
open Go.RowKit
set_option linter.unusedVariables false
set_option maxRecDepth 10000
set_option linter.unusedSimpArgs false
set_option linter.unnecessarySimpa false

/-- A region, a block of a function's code, by its number. -/
def codeRegion (n : Nat) : Code → Option Code
  | .region i ops d => if i == n then some (.region i ops d) else none
  | .seq a b => match codeRegion n a with
    | some c => some c
    | none => codeRegion n b
  | .cond _ a b => match codeRegion n a with
    | some c => some c
    | none => codeRegion n b
  | .block _ c => codeRegion n c
  | .loop c => codeRegion n c
  | .scope c => codeRegion n c
  | _ => none
def codeBlock (n : Nat) : Code → Option Code
  | .block i c => if i == n then some (.block i c) else codeBlock n c
  | .seq a b => match codeBlock n a with
    | some c => some c
    | none => codeBlock n b
  | .cond _ a b => match codeBlock n a with
    | some c => some c
    | none => codeBlock n b
  | .loop c => codeBlock n c
  | .scope c => codeBlock n c
  | _ => none
theorem rorR (x : UInt32) (n m : Nat) (c d : Int) (hc : c = ((2 ^ n : Nat) : Int)) (hd : d = ((2 ^ m : Nat) : Int)) (hm : m = 32 - n) : bits .or .u32 ((x.toNat : Int) / c) ((x.toNat : Int) * d % 4294967296) = ((ror x n).toNat : Int) := by
  subst hc hd hm
  rw [← IntKind.wrap_u32, shlW, shrW, bitsOr]; rfl
theorem rot_2 (x : UInt32) (w : World) : Calls Try.prog 18 #[.int .u32 x.toNat, .int .u64 2] w fun e w' => e = .returned (.int .u32 (ror x 2).toNat) ∧ w = w' := by
  have hx := w_lt x
  have hv := Lib.hid (rorR x 2 30 4 1073741824 (by decide) (by decide) (by decide))
  go_enter Try.func18, Try.ntmps18
  go_wp2_with fail
  go_ret
  exact ⟨by rw [← hv.out]; rfl, rfl⟩
theorem rot_6 (x : UInt32) (w : World) : Calls Try.prog 18 #[.int .u32 x.toNat, .int .u64 6] w fun e w' => e = .returned (.int .u32 (ror x 6).toNat) ∧ w = w' := by
  have hx := w_lt x
  have hv := Lib.hid (rorR x 6 26 64 67108864 (by decide) (by decide) (by decide))
  go_enter Try.func18, Try.ntmps18
  go_wp2_with fail
  go_ret
  exact ⟨by rw [← hv.out]; rfl, rfl⟩
theorem rot_7 (x : UInt32) (w : World) : Calls Try.prog 18 #[.int .u32 x.toNat, .int .u64 7] w fun e w' => e = .returned (.int .u32 (ror x 7).toNat) ∧ w = w' := by
  have hx := w_lt x
  have hv := Lib.hid (rorR x 7 25 128 33554432 (by decide) (by decide) (by decide))
  go_enter Try.func18, Try.ntmps18
  go_wp2_with fail
  go_ret
  exact ⟨by rw [← hv.out]; rfl, rfl⟩
theorem rot_11 (x : UInt32) (w : World) : Calls Try.prog 18 #[.int .u32 x.toNat, .int .u64 11] w fun e w' => e = .returned (.int .u32 (ror x 11).toNat) ∧ w = w' := by
  have hx := w_lt x
  have hv := Lib.hid (rorR x 11 21 2048 2097152 (by decide) (by decide) (by decide))
  go_enter Try.func18, Try.ntmps18
  go_wp2_with fail
  go_ret
  exact ⟨by rw [← hv.out]; rfl, rfl⟩
theorem rot_13 (x : UInt32) (w : World) : Calls Try.prog 18 #[.int .u32 x.toNat, .int .u64 13] w fun e w' => e = .returned (.int .u32 (ror x 13).toNat) ∧ w = w' := by
  have hx := w_lt x
  have hv := Lib.hid (rorR x 13 19 8192 524288 (by decide) (by decide) (by decide))
  go_enter Try.func18, Try.ntmps18
  go_wp2_with fail
  go_ret
  exact ⟨by rw [← hv.out]; rfl, rfl⟩
theorem rot_17 (x : UInt32) (w : World) : Calls Try.prog 18 #[.int .u32 x.toNat, .int .u64 17] w fun e w' => e = .returned (.int .u32 (ror x 17).toNat) ∧ w = w' := by
  have hx := w_lt x
  have hv := Lib.hid (rorR x 17 15 131072 32768 (by decide) (by decide) (by decide))
  go_enter Try.func18, Try.ntmps18
  go_wp2_with fail
  go_ret
  exact ⟨by rw [← hv.out]; rfl, rfl⟩
theorem rot_18 (x : UInt32) (w : World) : Calls Try.prog 18 #[.int .u32 x.toNat, .int .u64 18] w fun e w' => e = .returned (.int .u32 (ror x 18).toNat) ∧ w = w' := by
  have hx := w_lt x
  have hv := Lib.hid (rorR x 18 14 262144 16384 (by decide) (by decide) (by decide))
  go_enter Try.func18, Try.ntmps18
  go_wp2_with fail
  go_ret
  exact ⟨by rw [← hv.out]; rfl, rfl⟩
theorem rot_19 (x : UInt32) (w : World) : Calls Try.prog 18 #[.int .u32 x.toNat, .int .u64 19] w fun e w' => e = .returned (.int .u32 (ror x 19).toNat) ∧ w = w' := by
  have hx := w_lt x
  have hv := Lib.hid (rorR x 19 13 524288 8192 (by decide) (by decide) (by decide))
  go_enter Try.func18, Try.ntmps18
  go_wp2_with fail
  go_ret
  exact ⟨by rw [← hv.out]; rfl, rfl⟩
theorem rot_22 (x : UInt32) (w : World) : Calls Try.prog 18 #[.int .u32 x.toNat, .int .u64 22] w fun e w' => e = .returned (.int .u32 (ror x 22).toNat) ∧ w = w' := by
  have hx := w_lt x
  have hv := Lib.hid (rorR x 22 10 4194304 1024 (by decide) (by decide) (by decide))
  go_enter Try.func18, Try.ntmps18
  go_wp2_with fail
  go_ret
  exact ⟨by rw [← hv.out]; rfl, rfl⟩
theorem rot_25 (x : UInt32) (w : World) : Calls Try.prog 18 #[.int .u32 x.toNat, .int .u64 25] w fun e w' => e = .returned (.int .u32 (ror x 25).toNat) ∧ w = w' := by
  have hx := w_lt x
  have hv := Lib.hid (rorR x 25 7 33554432 128 (by decide) (by decide) (by decide))
  go_enter Try.func18, Try.ntmps18
  go_wp2_with fail
  go_ret
  exact ⟨by rw [← hv.out]; rfl, rfl⟩
set_option maxRecDepth 1000000 in
set_option maxHeartbeats 4000000 in
theorem ref_R24 {Q : Exit → Act → World → Prop} {u0 u1 u2 u3 u4 u5 u6 u7 u9 u10 u11 u13 u14 u15 u16 u17 u18 u19 u20 u21 u22 u23 u24 u25 u26 u27 u28 u29 u30 u31 u32 u33 u34 u35 u36 u37 u38 u39 u40 u41 u42 u43 u44 u45 u46 u47 u48 u49 u50 u51 u52 u53 u54 u55 u56 u57 u58 u59 u60 u61 u62 u63 u64 u65 u66 u67 u68 u69 u70 u71 u72 u73 u74 u75 u76 u77 u78 u79 u80 u81 u82 u83 u84 u85 u86 u87 u88 u89 u90 u91 u92 u93 u94 u95 u96 u97 u98 u99 u100 u101 u102 u103 u104 u105 u106 u107 u108 u109 u110 u111 u112 u113 u114 u115 u116 u117 u118 u119 u120 u121 u122 u123 u124 u125 u126 u127 u128 u129 u130 u131 u132 u133 u134 u135 u136 u137 u138 u139 u140 u141 u142 u143 u144 u145 u146 u147 u148 u149 u150 u151 u152 u153 u154 u155 u156 u157 u158 u159 u160 u161 u162 u163 u164 u165 u166 u167 u168 u169 u170 u171 u172 u173 u174 u175 u176 u177 u178 u179 u180 u181 u182 u183 u184 u185 u186 u187 u188 u189 u190 u191 u192 u193 u194 u195 u196 u197 u198 u199 u200 u201 u202 u203 u204 u205 u206 u207 u208 u209 u210 u211 u212 u213 u214 u215 u216 u217 u218 u219 u220 u221 u222 u223 u224 u225 u226 u227 u228 u229 u230 u231 u232 u233 u234 u235 u236 u237 u238 u239 u240 u241 u242 u243 u244 u245 u246 u247 u248 u249 u250 u251 u252 u253 u254 u255 u256 u257 u258 u259 u260 u261 u262 u263 u264 u265 u266 u267 u268 u269 u270 u271 u272 u273 u274 u275 u276 u277 : Value} (p8 k : Nat) (x y : UInt32) (wr : World) (hk16 : 16 ≤ k) (hk64 : k < 64)
    (c15 : wr.cell? ⟨p8, k - 15, none⟩ = some (.int .u32 (x.toNat : Int))) (c2 : wr.cell? ⟨p8, k - 2, none⟩ = some (.int .u32 (y.toNat : Int)))
    (hP : ∀ c (a : Act) (w : World) o v, Q (.panic c) (a.put o v) w → Q (.panic c) a w)
    (hQ : ∀ (x104 x105 x106 x107 x108 x109 x110 x111 : Value)  (w1 : World), (w1 = wr.drew) → Q .normal ⟨(u0 :: u1 :: u2 :: u3 :: u4 :: u5 :: u6 :: u7 :: (.pointer (some ⟨p8, 0, none⟩)) :: u9 :: u10 :: u11 :: (.int .i64 (k : Int)) :: (.int .u32 (x.toNat : Int)) :: (.int .u32 (y.toNat : Int)) :: u15 :: u16 :: u17 :: u18 :: u19 :: u20 :: u21 :: u22 :: u23 :: u24 :: u25 :: u26 :: u27 :: u28 :: u29 :: u30 :: u31 :: u32 :: u33 :: u34 :: u35 :: u36 :: u37 :: u38 :: u39 :: u40 :: u41 :: u42 :: u43 :: u44 :: u45 :: u46 :: u47 :: u48 :: u49 :: u50 :: u51 :: u52 :: u53 :: u54 :: u55 :: u56 :: u57 :: u58 :: u59 :: u60 :: u61 :: u62 :: u63 :: u64 :: u65 :: u66 :: u67 :: u68 :: u69 :: u70 :: u71 :: u72 :: u73 :: u74 :: u75 :: u76 :: u77 :: u78 :: u79 :: u80 :: u81 :: u82 :: u83 :: u84 :: u85 :: u86 :: u87 :: u88 :: u89 :: u90 :: u91 :: u92 :: u93 :: u94 :: u95 :: u96 :: u97 :: u98 :: u99 :: u100 :: u101 :: u102 :: u103 :: x104 :: x105 :: x106 :: x107 :: x108 :: x109 :: x110 :: x111 :: u112 :: u113 :: u114 :: u115 :: u116 :: u117 :: u118 :: u119 :: u120 :: u121 :: u122 :: u123 :: u124 :: u125 :: u126 :: u127 :: u128 :: u129 :: u130 :: u131 :: u132 :: u133 :: u134 :: u135 :: u136 :: u137 :: u138 :: u139 :: u140 :: u141 :: u142 :: u143 :: u144 :: u145 :: u146 :: u147 :: u148 :: u149 :: u150 :: u151 :: u152 :: u153 :: u154 :: u155 :: u156 :: u157 :: u158 :: u159 :: u160 :: u161 :: u162 :: u163 :: u164 :: u165 :: u166 :: u167 :: u168 :: u169 :: u170 :: u171 :: u172 :: u173 :: u174 :: u175 :: u176 :: u177 :: u178 :: u179 :: u180 :: u181 :: u182 :: u183 :: u184 :: u185 :: u186 :: u187 :: u188 :: u189 :: u190 :: u191 :: u192 :: u193 :: u194 :: u195 :: u196 :: u197 :: u198 :: u199 :: u200 :: u201 :: u202 :: u203 :: u204 :: u205 :: u206 :: u207 :: u208 :: u209 :: u210 :: u211 :: u212 :: u213 :: u214 :: u215 :: u216 :: u217 :: u218 :: u219 :: u220 :: u221 :: u222 :: u223 :: u224 :: u225 :: u226 :: u227 :: u228 :: u229 :: u230 :: u231 :: u232 :: u233 :: u234 :: u235 :: u236 :: u237 :: u238 :: u239 :: u240 :: u241 :: u242 :: u243 :: u244 :: u245 :: u246 :: u247 :: u248 :: u249 :: u250 :: u251 :: u252 :: u253 :: u254 :: u255 :: u256 :: u257 :: u258 :: u259 :: u260 :: u261 :: u262 :: u263 :: u264 :: u265 :: u266 :: u267 :: u268 :: u269 :: u270 :: u271 :: u272 :: u273 :: u274 :: u275 :: u276 :: u277 :: []).toArray, []⟩ w1) :
    Code.wp Try.prog ((Try.f11.body.bind (codeRegion 24)).getD .skip) Q ⟨(u0 :: u1 :: u2 :: u3 :: u4 :: u5 :: u6 :: u7 :: (.pointer (some ⟨p8, 0, none⟩)) :: u9 :: u10 :: u11 :: (.int .i64 (k : Int)) :: u13 :: u14 :: u15 :: u16 :: u17 :: u18 :: u19 :: u20 :: u21 :: u22 :: u23 :: u24 :: u25 :: u26 :: u27 :: u28 :: u29 :: u30 :: u31 :: u32 :: u33 :: u34 :: u35 :: u36 :: u37 :: u38 :: u39 :: u40 :: u41 :: u42 :: u43 :: u44 :: u45 :: u46 :: u47 :: u48 :: u49 :: u50 :: u51 :: u52 :: u53 :: u54 :: u55 :: u56 :: u57 :: u58 :: u59 :: u60 :: u61 :: u62 :: u63 :: u64 :: u65 :: u66 :: u67 :: u68 :: u69 :: u70 :: u71 :: u72 :: u73 :: u74 :: u75 :: u76 :: u77 :: u78 :: u79 :: u80 :: u81 :: u82 :: u83 :: u84 :: u85 :: u86 :: u87 :: u88 :: u89 :: u90 :: u91 :: u92 :: u93 :: u94 :: u95 :: u96 :: u97 :: u98 :: u99 :: u100 :: u101 :: u102 :: u103 :: u104 :: u105 :: u106 :: u107 :: u108 :: u109 :: u110 :: u111 :: u112 :: u113 :: u114 :: u115 :: u116 :: u117 :: u118 :: u119 :: u120 :: u121 :: u122 :: u123 :: u124 :: u125 :: u126 :: u127 :: u128 :: u129 :: u130 :: u131 :: u132 :: u133 :: u134 :: u135 :: u136 :: u137 :: u138 :: u139 :: u140 :: u141 :: u142 :: u143 :: u144 :: u145 :: u146 :: u147 :: u148 :: u149 :: u150 :: u151 :: u152 :: u153 :: u154 :: u155 :: u156 :: u157 :: u158 :: u159 :: u160 :: u161 :: u162 :: u163 :: u164 :: u165 :: u166 :: u167 :: u168 :: u169 :: u170 :: u171 :: u172 :: u173 :: u174 :: u175 :: u176 :: u177 :: u178 :: u179 :: u180 :: u181 :: u182 :: u183 :: u184 :: u185 :: u186 :: u187 :: u188 :: u189 :: u190 :: u191 :: u192 :: u193 :: u194 :: u195 :: u196 :: u197 :: u198 :: u199 :: u200 :: u201 :: u202 :: u203 :: u204 :: u205 :: u206 :: u207 :: u208 :: u209 :: u210 :: u211 :: u212 :: u213 :: u214 :: u215 :: u216 :: u217 :: u218 :: u219 :: u220 :: u221 :: u222 :: u223 :: u224 :: u225 :: u226 :: u227 :: u228 :: u229 :: u230 :: u231 :: u232 :: u233 :: u234 :: u235 :: u236 :: u237 :: u238 :: u239 :: u240 :: u241 :: u242 :: u243 :: u244 :: u245 :: u246 :: u247 :: u248 :: u249 :: u250 :: u251 :: u252 :: u253 :: u254 :: u255 :: u256 :: u257 :: u258 :: u259 :: u260 :: u261 :: u262 :: u263 :: u264 :: u265 :: u266 :: u267 :: u268 :: u269 :: u270 :: u271 :: u272 :: u273 :: u274 :: u275 :: u276 :: u277 :: []).toArray, []⟩ wr := by
  have HQ := Lib.hid hQ
  have HPP := Lib.hid hP
  clear hQ hP
  conv => arg 2; whnf
  have qk : (k : Int) < 64 := by omega
  have w15 : IntKind.i64.wrap ((k : Int) - 15) = (k : Int) - 15 := IntWalk.i64_in _ (by omega)
  have e15 : ((k : Int) - 15).toNat = k - 15 := by omega
  have p15 : 15 ≤ (k : Int) := by omega
  have q15 : (k : Int) - 15 < 64 := by omega
  have w2 : IntKind.i64.wrap ((k : Int) - 2) = (k : Int) - 2 := IntWalk.i64_in _ (by omega)
  have e2 : ((k : Int) - 2).toNat = k - 2 := by omega
  have p2 : 2 ≤ (k : Int) := by omega
  have q2 : (k : Int) - 2 < 64 := by omega
  have hT : Turns [] wr wr.drew := (Turns.refl _ _).drew
  refine reg_begin (fun W => Turns [] wr W) (fun _ => True) 10 10 #[false, false, false, false, false, false, false, false, false, false] (by kernel_rfl) (by kernel_rfl) (by kernel_rfl) ?_
  refine reg_take 0 104 9 #[true, false, false, false, false, false, false, false, false, false] (by rfl) (v := ?_) rfl rfl (by kernel_rfl) (by kernel_rfl) (by kernel_rfl) (by kernel_rfl) (fun _ _ _ h => HPP.out _ _ _ _ _ h) (by rfl) ?_ (Till.mk' hT trivial) ?_
  rotate_left
  · intro W hS; go_simp; all_goals with_reducible rfl
  try simp only [List.setIfInBounds_toArray, List.set_cons_succ, List.set_cons_zero]
  refine reg_take 1 105 8 #[true, true, false, false, false, false, false, false, false, false] (by rfl) (v := ?_) rfl rfl (by kernel_rfl) (by kernel_rfl) (by kernel_rfl) (by kernel_rfl) (fun _ _ _ h => HPP.out _ _ _ _ _ h) (by rfl) ?_ (Till.mk' hT trivial) ?_
  rotate_left
  · intro W hS; go_simp; all_goals with_reducible rfl
  try simp only [List.setIfInBounds_toArray, List.set_cons_succ, List.set_cons_zero]
  refine reg_take 2 106 7 #[true, true, true, false, false, false, false, false, false, false] (by rfl) (v := ?_) rfl rfl (by kernel_rfl) (by kernel_rfl) (by kernel_rfl) (by kernel_rfl) (fun _ _ _ h => HPP.out _ _ _ _ _ h) (by rfl) ?_ (Till.mk' hT trivial) ?_
  rotate_left
  · intro W hS; go_simp; all_goals with_reducible rfl
  try simp only [List.setIfInBounds_toArray, List.set_cons_succ, List.set_cons_zero]
  refine reg_take 3 107 6 #[true, true, true, true, false, false, false, false, false, false] (by rfl) (v := ?_) rfl rfl (by kernel_rfl) (by kernel_rfl) (by kernel_rfl) (by kernel_rfl) (fun _ _ _ h => HPP.out _ _ _ _ _ h) (by rfl) ?_ (Till.mk' hT trivial) ?_
  rotate_left
  · intro W hS; have c2 := cellL hS c15 (by simp); go_simp; all_goals with_reducible rfl
  try simp only [List.setIfInBounds_toArray, List.set_cons_succ, List.set_cons_zero]
  refine reg_take 4 108 5 #[true, true, true, true, true, false, false, false, false, false] (by rfl) (v := ?_) rfl rfl (by kernel_rfl) (by kernel_rfl) (by kernel_rfl) (by kernel_rfl) (fun _ _ _ h => HPP.out _ _ _ _ _ h) (by rfl) ?_ (Till.mk' hT trivial) ?_
  rotate_left
  · intro W hS; go_simp; all_goals with_reducible rfl
  try simp only [List.setIfInBounds_toArray, List.set_cons_succ, List.set_cons_zero]
  refine reg_take 5 109 4 #[true, true, true, true, true, true, false, false, false, false] (by rfl) (v := ?_) rfl rfl (by kernel_rfl) (by kernel_rfl) (by kernel_rfl) (by kernel_rfl) (fun _ _ _ h => HPP.out _ _ _ _ _ h) (by rfl) ?_ (Till.mk' hT trivial) ?_
  rotate_left
  · intro W hS; go_simp; all_goals with_reducible rfl
  try simp only [List.setIfInBounds_toArray, List.set_cons_succ, List.set_cons_zero]
  refine reg_take 6 110 3 #[true, true, true, true, true, true, true, false, false, false] (by rfl) (v := ?_) rfl rfl (by kernel_rfl) (by kernel_rfl) (by kernel_rfl) (by kernel_rfl) (fun _ _ _ h => HPP.out _ _ _ _ _ h) (by rfl) ?_ (Till.mk' hT trivial) ?_
  rotate_left
  · intro W hS; go_simp; all_goals with_reducible rfl
  try simp only [List.setIfInBounds_toArray, List.set_cons_succ, List.set_cons_zero]
  refine reg_take 7 111 2 #[true, true, true, true, true, true, true, true, false, false] (by rfl) (v := ?_) rfl rfl (by kernel_rfl) (by kernel_rfl) (by kernel_rfl) (by kernel_rfl) (fun _ _ _ h => HPP.out _ _ _ _ _ h) (by rfl) ?_ (Till.mk' hT trivial) ?_
  rotate_left
  · intro W hS; have c2 := cellL hS c2 (by simp); go_simp; all_goals with_reducible rfl
  try simp only [List.setIfInBounds_toArray, List.set_cons_succ, List.set_cons_zero]
  refine reg_take 8 13 1 #[true, true, true, true, true, true, true, true, true, false] (by rfl) (v := ?_) rfl rfl (by kernel_rfl) (by kernel_rfl) (by kernel_rfl) (by kernel_rfl) (fun _ _ _ h => HPP.out _ _ _ _ _ h) (by rfl) ?_ (Till.mk' hT trivial) ?_
  rotate_left
  · intro W hS; go_simp; all_goals with_reducible rfl
  try simp only [List.setIfInBounds_toArray, List.set_cons_succ, List.set_cons_zero]
  refine reg_take 9 14 0 #[true, true, true, true, true, true, true, true, true, true] (by rfl) (v := ?_) rfl rfl (by kernel_rfl) (by kernel_rfl) (by kernel_rfl) (by kernel_rfl) (fun _ _ _ h => HPP.out _ _ _ _ _ h) (by rfl) ?_ (Till.mk' hT trivial) ?_
  rotate_left
  · intro W hS; go_simp; all_goals with_reducible rfl
  try simp only [List.setIfInBounds_toArray, List.set_cons_succ, List.set_cons_zero]
  refine reg_done (by kernel_rfl) ?_ _
  exact HQ.out _ _ _ _ _ _ _ _ _ rfl
set_option maxRecDepth 1000000 in
set_option maxHeartbeats 4000000 in
theorem ref_R25 {Q : Exit → Act → World → Prop} {u0 u1 u2 u3 u4 u5 u6 u7 u9 u10 u11 u15 u16 u17 u18 u19 u20 u21 u22 u23 u24 u25 u26 u27 u28 u29 u30 u31 u32 u33 u34 u35 u36 u37 u38 u39 u40 u41 u42 u43 u44 u45 u46 u47 u48 u49 u50 u51 u52 u53 u54 u55 u56 u57 u58 u59 u60 u61 u62 u63 u64 u65 u66 u67 u68 u69 u70 u71 u72 u73 u74 u75 u76 u77 u78 u79 u80 u81 u82 u83 u84 u85 u86 u87 u88 u89 u90 u91 u92 u93 u94 u95 u96 u97 u98 u99 u100 u101 u102 u103 u104 u105 u106 u107 u108 u109 u110 u111 u112 u113 u114 u115 u116 u117 u118 u119 u120 u121 u122 u123 u124 u125 u126 u127 u128 u129 u130 u131 u132 u133 u134 u135 u136 u137 u138 u139 u140 u141 u142 u143 u144 u145 u146 u147 u148 u149 u150 u151 u152 u153 u154 u155 u156 u157 u158 u159 u160 u161 u162 u163 u164 u165 u166 u167 u168 u169 u170 u171 u172 u173 u174 u175 u176 u177 u178 u179 u180 u181 u182 u183 u184 u185 u186 u187 u188 u189 u190 u191 u192 u193 u194 u195 u196 u197 u198 u199 u200 u201 u202 u203 u204 u205 u206 u207 u208 u209 u210 u211 u212 u213 u214 u215 u216 u217 u218 u219 u220 u221 u222 u223 u224 u225 u226 u227 u228 u229 u230 u231 u232 u233 u234 u235 u236 u237 u238 u239 u240 u241 u242 u243 u244 u245 u246 u247 u248 u249 u250 u251 u252 u253 u254 u255 u256 u257 u258 u259 u260 u261 u262 u263 u264 u265 u266 u267 u268 u269 u270 u271 u272 u273 u274 u275 u276 u277 : Value} (p8 k : Nat) (x y v7 v16 vk : UInt32) (wr : World) (hk16 : 16 ≤ k) (hk64 : k < 64)
    (c7 : wr.cell? ⟨p8, k - 7, none⟩ = some (.int .u32 (v7.toNat : Int))) (c16 : wr.cell? ⟨p8, k - 16, none⟩ = some (.int .u32 (v16.toNat : Int))) (ck : wr.cell? ⟨p8, k, none⟩ = some (.int .u32 (vk.toNat : Int))) (fk : wr.frozen? ⟨p8, k, none⟩ = false)
    (hP : ∀ c (a : Act) (w : World) o v, Q (.panic c) (a.put o v) w → Q (.panic c) a w)
    (hQ : ∀ (x112 x113 x114 x115 x116 x117 x118 x119 x120 x121 x122 x123 x124 x125 x126 x127 x128 x129 x130 x131 x132 x133 x134 x135 x136 x137 x138 x139 x140 : Value)  (w1 : World), (w1 = (wr.setCell ⟨p8, k, none⟩ (.int .u32 (((ror y 17 ^^^ ror y 19 ^^^ shr32 y 10) + v7 + (ror x 7 ^^^ ror x 18 ^^^ shr32 x 3) + v16).toNat : Int))).drew) → Q .normal ⟨(u0 :: u1 :: u2 :: u3 :: u4 :: u5 :: u6 :: u7 :: (.pointer (some ⟨p8, 0, none⟩)) :: u9 :: u10 :: u11 :: (.int .i64 (k : Int)) :: (.int .u32 (x.toNat : Int)) :: (.int .u32 (y.toNat : Int)) :: u15 :: u16 :: u17 :: u18 :: u19 :: u20 :: u21 :: u22 :: u23 :: u24 :: u25 :: u26 :: u27 :: u28 :: u29 :: u30 :: u31 :: u32 :: u33 :: u34 :: u35 :: u36 :: u37 :: u38 :: u39 :: u40 :: u41 :: u42 :: u43 :: u44 :: u45 :: u46 :: u47 :: u48 :: u49 :: u50 :: u51 :: u52 :: u53 :: u54 :: u55 :: u56 :: u57 :: u58 :: u59 :: u60 :: u61 :: u62 :: u63 :: u64 :: u65 :: u66 :: u67 :: u68 :: u69 :: u70 :: u71 :: u72 :: u73 :: u74 :: u75 :: u76 :: u77 :: u78 :: u79 :: u80 :: u81 :: u82 :: u83 :: u84 :: u85 :: u86 :: u87 :: u88 :: u89 :: u90 :: u91 :: u92 :: u93 :: u94 :: u95 :: u96 :: u97 :: u98 :: u99 :: u100 :: u101 :: u102 :: u103 :: u104 :: u105 :: u106 :: u107 :: u108 :: u109 :: u110 :: u111 :: x112 :: x113 :: x114 :: x115 :: x116 :: x117 :: x118 :: x119 :: x120 :: x121 :: x122 :: x123 :: x124 :: x125 :: x126 :: x127 :: x128 :: x129 :: x130 :: x131 :: x132 :: x133 :: x134 :: x135 :: x136 :: x137 :: x138 :: x139 :: x140 :: u141 :: u142 :: u143 :: u144 :: u145 :: u146 :: u147 :: u148 :: u149 :: u150 :: u151 :: u152 :: u153 :: u154 :: u155 :: u156 :: u157 :: u158 :: u159 :: u160 :: u161 :: u162 :: u163 :: u164 :: u165 :: u166 :: u167 :: u168 :: u169 :: u170 :: u171 :: u172 :: u173 :: u174 :: u175 :: u176 :: u177 :: u178 :: u179 :: u180 :: u181 :: u182 :: u183 :: u184 :: u185 :: u186 :: u187 :: u188 :: u189 :: u190 :: u191 :: u192 :: u193 :: u194 :: u195 :: u196 :: u197 :: u198 :: u199 :: u200 :: u201 :: u202 :: u203 :: u204 :: u205 :: u206 :: u207 :: u208 :: u209 :: u210 :: u211 :: u212 :: u213 :: u214 :: u215 :: u216 :: u217 :: u218 :: u219 :: u220 :: u221 :: u222 :: u223 :: u224 :: u225 :: u226 :: u227 :: u228 :: u229 :: u230 :: u231 :: u232 :: u233 :: u234 :: u235 :: u236 :: u237 :: u238 :: u239 :: u240 :: u241 :: u242 :: u243 :: u244 :: u245 :: u246 :: u247 :: u248 :: u249 :: u250 :: u251 :: u252 :: u253 :: u254 :: u255 :: u256 :: u257 :: u258 :: u259 :: u260 :: u261 :: u262 :: u263 :: u264 :: u265 :: u266 :: u267 :: u268 :: u269 :: u270 :: u271 :: u272 :: u273 :: u274 :: u275 :: u276 :: u277 :: []).toArray, []⟩ w1) :
    Code.wp Try.prog ((Try.f11.body.bind (codeRegion 25)).getD .skip) Q ⟨(u0 :: u1 :: u2 :: u3 :: u4 :: u5 :: u6 :: u7 :: (.pointer (some ⟨p8, 0, none⟩)) :: u9 :: u10 :: u11 :: (.int .i64 (k : Int)) :: (.int .u32 (x.toNat : Int)) :: (.int .u32 (y.toNat : Int)) :: u15 :: u16 :: u17 :: u18 :: u19 :: u20 :: u21 :: u22 :: u23 :: u24 :: u25 :: u26 :: u27 :: u28 :: u29 :: u30 :: u31 :: u32 :: u33 :: u34 :: u35 :: u36 :: u37 :: u38 :: u39 :: u40 :: u41 :: u42 :: u43 :: u44 :: u45 :: u46 :: u47 :: u48 :: u49 :: u50 :: u51 :: u52 :: u53 :: u54 :: u55 :: u56 :: u57 :: u58 :: u59 :: u60 :: u61 :: u62 :: u63 :: u64 :: u65 :: u66 :: u67 :: u68 :: u69 :: u70 :: u71 :: u72 :: u73 :: u74 :: u75 :: u76 :: u77 :: u78 :: u79 :: u80 :: u81 :: u82 :: u83 :: u84 :: u85 :: u86 :: u87 :: u88 :: u89 :: u90 :: u91 :: u92 :: u93 :: u94 :: u95 :: u96 :: u97 :: u98 :: u99 :: u100 :: u101 :: u102 :: u103 :: u104 :: u105 :: u106 :: u107 :: u108 :: u109 :: u110 :: u111 :: u112 :: u113 :: u114 :: u115 :: u116 :: u117 :: u118 :: u119 :: u120 :: u121 :: u122 :: u123 :: u124 :: u125 :: u126 :: u127 :: u128 :: u129 :: u130 :: u131 :: u132 :: u133 :: u134 :: u135 :: u136 :: u137 :: u138 :: u139 :: u140 :: u141 :: u142 :: u143 :: u144 :: u145 :: u146 :: u147 :: u148 :: u149 :: u150 :: u151 :: u152 :: u153 :: u154 :: u155 :: u156 :: u157 :: u158 :: u159 :: u160 :: u161 :: u162 :: u163 :: u164 :: u165 :: u166 :: u167 :: u168 :: u169 :: u170 :: u171 :: u172 :: u173 :: u174 :: u175 :: u176 :: u177 :: u178 :: u179 :: u180 :: u181 :: u182 :: u183 :: u184 :: u185 :: u186 :: u187 :: u188 :: u189 :: u190 :: u191 :: u192 :: u193 :: u194 :: u195 :: u196 :: u197 :: u198 :: u199 :: u200 :: u201 :: u202 :: u203 :: u204 :: u205 :: u206 :: u207 :: u208 :: u209 :: u210 :: u211 :: u212 :: u213 :: u214 :: u215 :: u216 :: u217 :: u218 :: u219 :: u220 :: u221 :: u222 :: u223 :: u224 :: u225 :: u226 :: u227 :: u228 :: u229 :: u230 :: u231 :: u232 :: u233 :: u234 :: u235 :: u236 :: u237 :: u238 :: u239 :: u240 :: u241 :: u242 :: u243 :: u244 :: u245 :: u246 :: u247 :: u248 :: u249 :: u250 :: u251 :: u252 :: u253 :: u254 :: u255 :: u256 :: u257 :: u258 :: u259 :: u260 :: u261 :: u262 :: u263 :: u264 :: u265 :: u266 :: u267 :: u268 :: u269 :: u270 :: u271 :: u272 :: u273 :: u274 :: u275 :: u276 :: u277 :: []).toArray, []⟩ wr := by
  have HQ := Lib.hid hQ
  have HPP := Lib.hid hP
  clear hQ hP
  conv => arg 2; whnf
  have qk : (k : Int) < 64 := by omega
  have w7 : IntKind.i64.wrap ((k : Int) - 7) = (k : Int) - 7 := IntWalk.i64_in _ (by omega)
  have e7 : ((k : Int) - 7).toNat = k - 7 := by omega
  have p7 : 7 ≤ (k : Int) := by omega
  have q7 : (k : Int) - 7 < 64 := by omega
  have w16 : IntKind.i64.wrap ((k : Int) - 16) = (k : Int) - 16 := IntWalk.i64_in _ (by omega)
  have e16 : ((k : Int) - 16).toNat = k - 16 := by omega
  have p16 : 16 ≤ (k : Int) := by omega
  have q16 : (k : Int) - 16 < 64 := by omega
  have HS3 := Lib.hid (show ∀ x : UInt32, (x.toNat : Int) / 8 = ((shr32 x 3).toNat : Int) from fun x => shrW x 3)
  have HS10 := Lib.hid (show ∀ x : UInt32, (x.toNat : Int) / 1024 = ((shr32 x 10).toNat : Int) from fun x => shrW x 10)
  have hT : Turns [] wr wr.drew := (Turns.refl _ _).drew
  refine reg_begin (fun _ => True) (fun W => Turns [] wr W) 29 30 #[false, false, false, false, false, false, false, false, false, false, false, false, false, false, false, false, false, false, false, false, false, false, false, false, false, false, false, false, false, false] (by kernel_rfl) (by kernel_rfl) (by kernel_rfl) ?_
  refine reg_take 0 112 29 #[true, false, false, false, false, false, false, false, false, false, false, false, false, false, false, false, false, false, false, false, false, false, false, false, false, false, false, false, false, false] (by rfl) (v := ?_) rfl rfl (by kernel_rfl) (by kernel_rfl) (by kernel_rfl) (by kernel_rfl) (fun _ _ _ h => HPP.out _ _ _ _ _ h) (by rfl) ?_ (Till.mk' trivial hT) ?_
  rotate_left
  · intro W hS; go_simp; all_goals with_reducible rfl
  try simp only [List.setIfInBounds_toArray, List.set_cons_succ, List.set_cons_zero]
  refine reg_take 1 113 28 #[true, true, false, false, false, false, false, false, false, false, false, false, false, false, false, false, false, false, false, false, false, false, false, false, false, false, false, false, false, false] (by rfl) (v := ?_) rfl rfl (by kernel_rfl) (by kernel_rfl) (by kernel_rfl) (by kernel_rfl) (fun _ _ _ h => HPP.out _ _ _ _ _ h) (by rfl) ?_ (Till.mk' trivial hT) ?_
  rotate_left
  · intro W hS; go_simp; all_goals with_reducible rfl
  try simp only [List.setIfInBounds_toArray, List.set_cons_succ, List.set_cons_zero]
  refine reg_take 3 115 27 #[true, true, false, true, false, false, false, false, false, false, false, false, false, false, false, false, false, false, false, false, false, false, false, false, false, false, false, false, false, false] (by rfl) (v := ?_) rfl rfl (by kernel_rfl) (by kernel_rfl) (by kernel_rfl) (by kernel_rfl) (fun _ _ _ h => HPP.out _ _ _ _ _ h) (by rfl) ?_ (Till.mk' trivial hT) ?_
  rotate_left
  · intro W hS; go_simp; all_goals with_reducible rfl
  try simp only [List.setIfInBounds_toArray, List.set_cons_succ, List.set_cons_zero]
  refine reg_take 6 118 26 #[true, true, false, true, false, false, true, false, false, false, false, false, false, false, false, false, false, false, false, false, false, false, false, false, false, false, false, false, false, false] (by rfl) (v := ?_) rfl rfl (by kernel_rfl) (by kernel_rfl) (by kernel_rfl) (by kernel_rfl) (fun _ _ _ h => HPP.out _ _ _ _ _ h) (by rfl) ?_ (Till.mk' trivial hT) ?_
  rotate_left
  · intro W hS; go_simp; all_goals with_reducible rfl
  try simp only [List.setIfInBounds_toArray, List.set_cons_succ, List.set_cons_zero]
  refine reg_take 7 119 25 #[true, true, false, true, false, false, true, true, false, false, false, false, false, false, false, false, false, false, false, false, false, false, false, false, false, false, false, false, false, false] (by rfl) (v := ?_) rfl rfl (by kernel_rfl) (by kernel_rfl) (by kernel_rfl) (by kernel_rfl) (fun _ _ _ h => HPP.out _ _ _ _ _ h) (by rfl) ?_ (Till.mk' trivial hT) ?_
  rotate_left
  · intro W hS; go_simp; all_goals with_reducible rfl
  try simp only [List.setIfInBounds_toArray, List.set_cons_succ, List.set_cons_zero]
  refine reg_take 9 121 24 #[true, true, false, true, false, false, true, true, false, true, false, false, false, false, false, false, false, false, false, false, false, false, false, false, false, false, false, false, false, false] (by rfl) (v := ?_) rfl rfl (by kernel_rfl) (by kernel_rfl) (by kernel_rfl) (by kernel_rfl) (fun _ _ _ h => HPP.out _ _ _ _ _ h) (by rfl) ?_ (Till.mk' trivial hT) ?_
  rotate_left
  · intro W hS; go_simp; all_goals with_reducible rfl
  try simp only [List.setIfInBounds_toArray, List.set_cons_succ, List.set_cons_zero]
  refine reg_take 10 122 23 #[true, true, false, true, false, false, true, true, false, true, true, false, false, false, false, false, false, false, false, false, false, false, false, false, false, false, false, false, false, false] (by rfl) (v := ?_) rfl rfl (by kernel_rfl) (by kernel_rfl) (by kernel_rfl) (by kernel_rfl) (fun _ _ _ h => HPP.out _ _ _ _ _ h) (by rfl) ?_ (Till.mk' trivial hT) ?_
  rotate_left
  · intro W hS; go_simp; all_goals with_reducible rfl
  try simp only [List.setIfInBounds_toArray, List.set_cons_succ, List.set_cons_zero]
  refine reg_take 11 123 22 #[true, true, false, true, false, false, true, true, false, true, true, true, false, false, false, false, false, false, false, false, false, false, false, false, false, false, false, false, false, false] (by rfl) (v := ?_) rfl rfl (by kernel_rfl) (by kernel_rfl) (by kernel_rfl) (by kernel_rfl) (fun _ _ _ h => HPP.out _ _ _ _ _ h) (by rfl) ?_ (Till.mk' trivial hT) ?_
  rotate_left
  · intro W hS; go_simp; all_goals with_reducible rfl
  try simp only [List.setIfInBounds_toArray, List.set_cons_succ, List.set_cons_zero]
  refine reg_take_t 12 124 21 #[true, true, false, true, false, false, true, true, false, true, true, true, true, false, false, false, false, false, false, false, false, false, false, false, false, false, false, false, false, false] (by rfl) (v := ?_) rfl rfl (by kernel_rfl) (by kernel_rfl) (by kernel_rfl) (by kernel_rfl) (fun _ _ _ h => HPP.out _ _ _ _ _ h) (by rfl) (by kernel_rfl) (by kernel_rfl) ?_ (Till.mk' trivial hT) ?_
  rotate_left
  · rintro W ⟨-, hS⟩; have c2 := cellL hS c7 (by simp); go_simp; all_goals with_reducible rfl
  try simp only [List.setIfInBounds_toArray, List.set_cons_succ, List.set_cons_zero]
  refine reg_take 14 126 20 #[true, true, false, true, false, false, true, true, false, true, true, true, true, false, true, false, false, false, false, false, false, false, false, false, false, false, false, false, false, false] (by rfl) (v := ?_) rfl rfl (by kernel_rfl) (by kernel_rfl) (by kernel_rfl) (by kernel_rfl) (fun _ _ _ h => HPP.out _ _ _ _ _ h) (by rfl) ?_ (Till.mk' trivial hT) ?_
  rotate_left
  · intro W hS; go_simp; all_goals with_reducible rfl
  try simp only [List.setIfInBounds_toArray, List.set_cons_succ, List.set_cons_zero]
  refine reg_take 16 128 19 #[true, true, false, true, false, false, true, true, false, true, true, true, true, false, true, false, true, false, false, false, false, false, false, false, false, false, false, false, false, false] (by rfl) (v := ?_) rfl rfl (by kernel_rfl) (by kernel_rfl) (by kernel_rfl) (by kernel_rfl) (fun _ _ _ h => HPP.out _ _ _ _ _ h) (by rfl) ?_ (Till.mk' trivial hT) ?_
  rotate_left
  · intro W hS; go_simp; all_goals with_reducible rfl
  try simp only [List.setIfInBounds_toArray, List.set_cons_succ, List.set_cons_zero]
  refine reg_take 19 131 18 #[true, true, false, true, false, false, true, true, false, true, true, true, true, false, true, false, true, false, false, true, false, false, false, false, false, false, false, false, false, false] (by rfl) (v := ?_) rfl rfl (by kernel_rfl) (by kernel_rfl) (by kernel_rfl) (by kernel_rfl) (fun _ _ _ h => HPP.out _ _ _ _ _ h) (by rfl) ?_ (Till.mk' trivial hT) ?_
  rotate_left
  · intro W hS; go_simp; all_goals with_reducible rfl
  try simp only [List.setIfInBounds_toArray, List.set_cons_succ, List.set_cons_zero]
  refine reg_take 20 132 17 #[true, true, false, true, false, false, true, true, false, true, true, true, true, false, true, false, true, false, false, true, true, false, false, false, false, false, false, false, false, false] (by rfl) (v := ?_) rfl rfl (by kernel_rfl) (by kernel_rfl) (by kernel_rfl) (by kernel_rfl) (fun _ _ _ h => HPP.out _ _ _ _ _ h) (by rfl) ?_ (Till.mk' trivial hT) ?_
  rotate_left
  · intro W hS; go_simp; all_goals with_reducible rfl
  try simp only [List.setIfInBounds_toArray, List.set_cons_succ, List.set_cons_zero]
  refine reg_take 23 135 16 #[true, true, false, true, false, false, true, true, false, true, true, true, true, false, true, false, true, false, false, true, true, false, false, true, false, false, false, false, false, false] (by rfl) (v := ?_) rfl rfl (by kernel_rfl) (by kernel_rfl) (by kernel_rfl) (by kernel_rfl) (fun _ _ _ h => HPP.out _ _ _ _ _ h) (by rfl) ?_ (Till.mk' trivial hT) ?_
  rotate_left
  · intro W hS; go_simp; all_goals with_reducible rfl
  try simp only [List.setIfInBounds_toArray, List.set_cons_succ, List.set_cons_zero]
  refine reg_take 24 136 15 #[true, true, false, true, false, false, true, true, false, true, true, true, true, false, true, false, true, false, false, true, true, false, false, true, true, false, false, false, false, false] (by rfl) (v := ?_) rfl rfl (by kernel_rfl) (by kernel_rfl) (by kernel_rfl) (by kernel_rfl) (fun _ _ _ h => HPP.out _ _ _ _ _ h) (by rfl) ?_ (Till.mk' trivial hT) ?_
  rotate_left
  · intro W hS; go_simp; all_goals with_reducible rfl
  try simp only [List.setIfInBounds_toArray, List.set_cons_succ, List.set_cons_zero]
  refine reg_take 25 137 14 #[true, true, false, true, false, false, true, true, false, true, true, true, true, false, true, false, true, false, false, true, true, false, false, true, true, true, false, false, false, false] (by rfl) (v := ?_) rfl rfl (by kernel_rfl) (by kernel_rfl) (by kernel_rfl) (by kernel_rfl) (fun _ _ _ h => HPP.out _ _ _ _ _ h) (by rfl) ?_ (Till.mk' trivial hT) ?_
  rotate_left
  · intro W hS; go_simp; all_goals with_reducible rfl
  try simp only [List.setIfInBounds_toArray, List.set_cons_succ, List.set_cons_zero]
  refine reg_take_t 26 138 13 #[true, true, false, true, false, false, true, true, false, true, true, true, true, false, true, false, true, false, false, true, true, false, false, true, true, true, true, false, false, false] (by rfl) (v := ?_) rfl rfl (by kernel_rfl) (by kernel_rfl) (by kernel_rfl) (by kernel_rfl) (fun _ _ _ h => HPP.out _ _ _ _ _ h) (by rfl) (by kernel_rfl) (by kernel_rfl) ?_ (Till.mk' trivial hT) ?_
  rotate_left
  · rintro W ⟨-, hS⟩; have c2 := cellL hS c16 (by simp); go_simp; all_goals with_reducible rfl
  try simp only [List.setIfInBounds_toArray, List.set_cons_succ, List.set_cons_zero]
  refine reg_one 2 12 #[true, true, true, true, false, false, true, true, false, true, true, true, true, false, true, false, true, false, false, true, true, false, false, true, true, true, true, false, false, false] (by kernel_rfl) rfl (by rfl) (by kernel_rfl) (fun K hK => ?_)
  go_simp
  refine (rot_17 y _).mono ?_
  rintro e ww ⟨rfl, rfl⟩
  refine hK _ _ (Till.mk' trivial hT) ?_
  clear hK K
  try simp only [List.setIfInBounds_toArray, List.set_cons_succ, List.set_cons_zero]
  refine reg_one 4 11 #[true, true, true, true, true, false, true, true, false, true, true, true, true, false, true, false, true, false, false, true, true, false, false, true, true, true, true, false, false, false] (by kernel_rfl) rfl (by rfl) (by kernel_rfl) (fun K hK => ?_)
  go_simp
  refine (rot_19 y _).mono ?_
  rintro e ww ⟨rfl, rfl⟩
  refine hK _ _ (Till.mk' trivial hT) ?_
  clear hK K
  try simp only [List.setIfInBounds_toArray, List.set_cons_succ, List.set_cons_zero]
  refine reg_take 5 117 10 #[true, true, true, true, true, true, true, true, false, true, true, true, true, false, true, false, true, false, false, true, true, false, false, true, true, true, true, false, false, false] (by rfl) (v := ?_) rfl rfl (by kernel_rfl) (by kernel_rfl) (by kernel_rfl) (by kernel_rfl) (fun _ _ _ h => HPP.out _ _ _ _ _ h) (by rfl) ?_ (Till.mk' trivial hT) ?_
  rotate_left
  · intro W hS; go_simp; all_goals with_reducible rfl
  try simp only [List.setIfInBounds_toArray, List.set_cons_succ, List.set_cons_zero]
  refine reg_take 8 120 9 #[true, true, true, true, true, true, true, true, true, true, true, true, true, false, true, false, true, false, false, true, true, false, false, true, true, true, true, false, false, false] (by rfl) (v := ?_) rfl rfl (by kernel_rfl) (by kernel_rfl) (by kernel_rfl) (by kernel_rfl) (fun _ _ _ h => HPP.out _ _ _ _ _ h) (by rfl) ?_ (Till.mk' trivial hT) ?_
  rotate_left
  · intro W hS; go_simp; all_goals with_reducible rfl
  try simp only [List.setIfInBounds_toArray, List.set_cons_succ, List.set_cons_zero]
  refine reg_take 13 125 8 #[true, true, true, true, true, true, true, true, true, true, true, true, true, true, true, false, true, false, false, true, true, false, false, true, true, true, true, false, false, false] (by rfl) (v := ?_) rfl rfl (by kernel_rfl) (by kernel_rfl) (by kernel_rfl) (by kernel_rfl) (fun _ _ _ h => HPP.out _ _ _ _ _ h) (by rfl) ?_ (Till.mk' trivial hT) ?_
  rotate_left
  · intro W hS; go_simp; all_goals with_reducible rfl
  try simp only [List.setIfInBounds_toArray, List.set_cons_succ, List.set_cons_zero]
  refine reg_one 15 7 #[true, true, true, true, true, true, true, true, true, true, true, true, true, true, true, true, true, false, false, true, true, false, false, true, true, true, true, false, false, false] (by kernel_rfl) rfl (by rfl) (by kernel_rfl) (fun K hK => ?_)
  go_simp
  refine (rot_7 x _).mono ?_
  rintro e ww ⟨rfl, rfl⟩
  refine hK _ _ (Till.mk' trivial hT) ?_
  clear hK K
  try simp only [List.setIfInBounds_toArray, List.set_cons_succ, List.set_cons_zero]
  refine reg_one 17 6 #[true, true, true, true, true, true, true, true, true, true, true, true, true, true, true, true, true, true, false, true, true, false, false, true, true, true, true, false, false, false] (by kernel_rfl) rfl (by rfl) (by kernel_rfl) (fun K hK => ?_)
  go_simp
  refine (rot_18 x _).mono ?_
  rintro e ww ⟨rfl, rfl⟩
  refine hK _ _ (Till.mk' trivial hT) ?_
  clear hK K
  try simp only [List.setIfInBounds_toArray, List.set_cons_succ, List.set_cons_zero]
  refine reg_take 18 130 5 #[true, true, true, true, true, true, true, true, true, true, true, true, true, true, true, true, true, true, true, true, true, false, false, true, true, true, true, false, false, false] (by rfl) (v := ?_) rfl rfl (by kernel_rfl) (by kernel_rfl) (by kernel_rfl) (by kernel_rfl) (fun _ _ _ h => HPP.out _ _ _ _ _ h) (by rfl) ?_ (Till.mk' trivial hT) ?_
  rotate_left
  · intro W hS; go_simp; all_goals with_reducible rfl
  try simp only [List.setIfInBounds_toArray, List.set_cons_succ, List.set_cons_zero]
  refine reg_take 21 133 4 #[true, true, true, true, true, true, true, true, true, true, true, true, true, true, true, true, true, true, true, true, true, true, false, true, true, true, true, false, false, false] (by rfl) (v := ?_) rfl rfl (by kernel_rfl) (by kernel_rfl) (by kernel_rfl) (by kernel_rfl) (fun _ _ _ h => HPP.out _ _ _ _ _ h) (by rfl) ?_ (Till.mk' trivial hT) ?_
  rotate_left
  · intro W hS; go_simp; all_goals with_reducible rfl
  try simp only [List.setIfInBounds_toArray, List.set_cons_succ, List.set_cons_zero]
  refine reg_take 22 134 3 #[true, true, true, true, true, true, true, true, true, true, true, true, true, true, true, true, true, true, true, true, true, true, true, true, true, true, true, false, false, false] (by rfl) (v := ?_) rfl rfl (by kernel_rfl) (by kernel_rfl) (by kernel_rfl) (by kernel_rfl) (fun _ _ _ h => HPP.out _ _ _ _ _ h) (by rfl) ?_ (Till.mk' trivial hT) ?_
  rotate_left
  · intro W hS; go_simp; all_goals with_reducible rfl
  try simp only [List.setIfInBounds_toArray, List.set_cons_succ, List.set_cons_zero]
  refine reg_take 27 139 2 #[true, true, true, true, true, true, true, true, true, true, true, true, true, true, true, true, true, true, true, true, true, true, true, true, true, true, true, true, false, false] (by rfl) (v := ?_) rfl rfl (by kernel_rfl) (by kernel_rfl) (by kernel_rfl) (by kernel_rfl) (fun _ _ _ h => HPP.out _ _ _ _ _ h) (by rfl) ?_ (Till.mk' trivial hT) ?_
  rotate_left
  · intro W hS; go_simp; all_goals with_reducible rfl
  try simp only [List.setIfInBounds_toArray, List.set_cons_succ, List.set_cons_zero]
  refine reg_take 28 140 1 #[true, true, true, true, true, true, true, true, true, true, true, true, true, true, true, true, true, true, true, true, true, true, true, true, true, true, true, true, true, false] (by rfl) (v := ?_) rfl rfl (by kernel_rfl) (by kernel_rfl) (by kernel_rfl) (by kernel_rfl) (fun _ _ _ h => HPP.out _ _ _ _ _ h) (by rfl) ?_ (Till.mk' trivial hT) ?_
  rotate_left
  · intro W hS; go_simp; all_goals with_reducible rfl
  try simp only [List.setIfInBounds_toArray, List.set_cons_succ, List.set_cons_zero]
  refine reg_one 29 0 #[true, true, true, true, true, true, true, true, true, true, true, true, true, true, true, true, true, true, true, true, true, true, true, true, true, true, true, true, true, true] (by kernel_rfl) rfl (by rfl) (by kernel_rfl) (fun K hK => ?_)
  go_simp
  refine hK _ _ (Till.past trivial (by kernel_rfl)) ?_
  clear hK K
  try simp only [List.setIfInBounds_toArray, List.set_cons_succ, List.set_cons_zero]
  refine reg_done (by kernel_rfl) ?_ _
  simp only [bitsXor, wrapAdd, HS3.out, HS10.out]
  exact HQ.out _ _ _ _ _ _ _ _ _ _ _ _ _ _ _ _ _ _ _ _ _ _ _ _ _ _ _ _ _ _ rfl
end Go.Proofs.Ytibolcekhdapaaa
