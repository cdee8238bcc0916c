/- The reference's sum, piece by piece: the rounds. -/
import Derived.Test.YtibolcekhdapaaaRefC
import Derived.Test.YtibolcekhdapaaaRefD
namespace Go.Proofs.Ytibolcekhdapaaa
open Go.RowKit
set_option linter.unusedVariables false
set_option maxRecDepth 10000
set_option linter.unusedSimpArgs false
set_option linter.unnecessarySimpa false

theorem size_a8 : (Try.prog.info? 57).map (·.size) = some 8 := by kernel_rfl
set_option maxRecDepth 1000000 in
set_option maxHeartbeats 4000000 in
theorem ref_L10 {Q : Exit → Act → World → Prop} {u0 u1 u2 u4 u5 u6 u7 u9 u10 u11 u12 u13 u14 u17 u18 u19 u20 u21 u22 u23 u24 u25 u26 u27 u28 u29 u30 u31 u32 u33 u34 u35 u36 u37 u38 u39 u40 u41 u42 u43 u44 u45 u46 u47 u48 u49 u50 u51 u52 u53 u54 u55 u56 u57 u58 u59 u60 u61 u62 u63 u64 u65 u66 u67 u68 u69 u70 u71 u72 u73 u74 u75 u76 u77 u78 u79 u80 u81 u82 u83 u84 u85 u86 u87 u88 u89 u90 u91 u92 u93 u94 u95 u96 u97 u98 u99 u100 u101 u102 u103 u104 u105 u106 u107 u108 u109 u110 u111 u112 u113 u114 u115 u116 u117 u118 u119 u120 u121 u122 u123 u124 u125 u126 u127 u128 u129 u130 u131 u132 u133 u134 u135 u136 u137 u138 u139 u140 u141 u142 u143 u144 u145 u146 u147 u148 u149 u150 u151 u152 u153 u154 u155 u156 u157 u158 u159 u160 u161 u162 u163 u164 u165 u166 u167 u168 u169 u170 u171 u172 u173 u174 u175 u176 u177 u178 u179 u180 u181 u182 u183 u184 u185 u186 u187 u188 u189 u190 u191 u192 u193 u194 u195 u196 u197 u198 u199 u200 u201 u202 u203 u204 u205 u206 u207 u208 u209 u210 u211 u212 u213 u214 u215 u216 u217 u218 u219 u220 u221 u222 u223 u224 u225 u226 u227 u228 u229 u230 u231 u232 u233 u234 u235 u236 u237 u238 u239 u240 u241 u242 u243 u244 u245 u246 u247 u248 u249 u250 u251 u252 u253 u254 u255 u256 u257 u258 u259 u260 u261 u262 u263 u264 u265 u266 u267 u268 u269 u270 u271 u272 u273 u274 u275 u276 u277 : Value} (p3 p8 p15 : Nat) (W s : List UInt32) (w : World) (hs : s.length = 8) (hW : W.length = 64) (hn3 : p3 ≠ p15) (hn8 : p8 ≠ p15) (hb3 : Blk w p3 (u32s shaK) 55) (hb8 : Blk w p8 (u32s W) 55) (hb15 : Blk w p15 (u32s s) 57)
    (hP : ∀ c (a : Act) (w : World) o v, Q (.panic c) (a.put o v) w → Q (.panic c) a w)
    (hQ : ∀ (x16 x17 x18 x19 x142 x143 x144 x145 x146 x147 x148 x149 x150 x151 x152 x153 x154 x155 x156 x157 x158 x159 x160 x161 x162 x163 x164 x165 x166 x167 x168 x169 x170 x171 x172 x173 x174 x175 x176 x177 x178 x179 x180 x181 x182 x183 x184 x185 x186 x187 x188 x189 x190 x191 x192 x193 x194 x195 x196 x197 x198 x199 x200 x201 x202 x203 x204 x205 x206 x207 x208 x209 x210 x211 x212 x213 x214 x215 x216 x217 x218 x219 x220 x221 x222 x223 x224 x225 x226 : Value)  (w1 : World), (Blk w1 p15 (u32s (rounds W 64 s)) 57 ∧ Turns [p15] w w1) → Q .normal ⟨(u0 :: u1 :: u2 :: (.pointer (some ⟨p3, 0, none⟩)) :: u4 :: u5 :: u6 :: u7 :: (.pointer (some ⟨p8, 0, none⟩)) :: u9 :: u10 :: u11 :: u12 :: u13 :: u14 :: (.pointer (some ⟨p15, 0, none⟩)) :: x16 :: x17 :: x18 :: x19 :: u20 :: u21 :: u22 :: u23 :: u24 :: u25 :: u26 :: u27 :: u28 :: u29 :: u30 :: u31 :: u32 :: u33 :: u34 :: u35 :: u36 :: u37 :: u38 :: u39 :: u40 :: u41 :: u42 :: u43 :: u44 :: u45 :: u46 :: u47 :: u48 :: u49 :: u50 :: u51 :: u52 :: u53 :: u54 :: u55 :: u56 :: u57 :: u58 :: u59 :: u60 :: u61 :: u62 :: u63 :: u64 :: u65 :: u66 :: u67 :: u68 :: u69 :: u70 :: u71 :: u72 :: u73 :: u74 :: u75 :: u76 :: u77 :: u78 :: u79 :: u80 :: u81 :: u82 :: u83 :: u84 :: u85 :: u86 :: u87 :: u88 :: u89 :: u90 :: u91 :: u92 :: u93 :: u94 :: u95 :: u96 :: u97 :: u98 :: u99 :: u100 :: u101 :: u102 :: u103 :: u104 :: u105 :: u106 :: u107 :: u108 :: u109 :: u110 :: u111 :: u112 :: u113 :: u114 :: u115 :: u116 :: u117 :: u118 :: u119 :: u120 :: u121 :: u122 :: u123 :: u124 :: u125 :: u126 :: u127 :: u128 :: u129 :: u130 :: u131 :: u132 :: u133 :: u134 :: u135 :: u136 :: u137 :: u138 :: u139 :: u140 :: u141 :: x142 :: x143 :: x144 :: x145 :: x146 :: x147 :: x148 :: x149 :: x150 :: x151 :: x152 :: x153 :: x154 :: x155 :: x156 :: x157 :: x158 :: x159 :: x160 :: x161 :: x162 :: x163 :: x164 :: x165 :: x166 :: x167 :: x168 :: x169 :: x170 :: x171 :: x172 :: x173 :: x174 :: x175 :: x176 :: x177 :: x178 :: x179 :: x180 :: x181 :: x182 :: x183 :: x184 :: x185 :: x186 :: x187 :: x188 :: x189 :: x190 :: x191 :: x192 :: x193 :: x194 :: x195 :: x196 :: x197 :: x198 :: x199 :: x200 :: x201 :: x202 :: x203 :: x204 :: x205 :: x206 :: x207 :: x208 :: x209 :: x210 :: x211 :: x212 :: x213 :: x214 :: x215 :: x216 :: x217 :: x218 :: x219 :: x220 :: x221 :: x222 :: x223 :: x224 :: x225 :: x226 :: u227 :: u228 :: u229 :: u230 :: u231 :: u232 :: u233 :: u234 :: u235 :: u236 :: u237 :: u238 :: u239 :: u240 :: u241 :: u242 :: u243 :: u244 :: u245 :: u246 :: u247 :: u248 :: u249 :: u250 :: u251 :: u252 :: u253 :: u254 :: u255 :: u256 :: u257 :: u258 :: u259 :: u260 :: u261 :: u262 :: u263 :: u264 :: u265 :: u266 :: u267 :: u268 :: u269 :: u270 :: u271 :: u272 :: u273 :: u274 :: u275 :: u276 :: u277 :: []).toArray, []⟩ w1) :
    Code.wp Try.prog ((Try.f11.body.bind (codeBlock 10)).getD .skip) Q ⟨(u0 :: u1 :: u2 :: (.pointer (some ⟨p3, 0, none⟩)) :: u4 :: u5 :: u6 :: u7 :: (.pointer (some ⟨p8, 0, none⟩)) :: u9 :: u10 :: u11 :: u12 :: u13 :: u14 :: (.pointer (some ⟨p15, 0, none⟩)) :: (.int .i64 0) :: u17 :: u18 :: u19 :: u20 :: u21 :: u22 :: u23 :: u24 :: u25 :: u26 :: u27 :: u28 :: u29 :: u30 :: u31 :: u32 :: u33 :: u34 :: u35 :: u36 :: u37 :: u38 :: u39 :: u40 :: u41 :: u42 :: u43 :: u44 :: u45 :: u46 :: u47 :: u48 :: u49 :: u50 :: u51 :: u52 :: u53 :: u54 :: u55 :: u56 :: u57 :: u58 :: u59 :: u60 :: u61 :: u62 :: u63 :: u64 :: u65 :: u66 :: u67 :: u68 :: u69 :: u70 :: u71 :: u72 :: u73 :: u74 :: u75 :: u76 :: u77 :: u78 :: u79 :: u80 :: u81 :: u82 :: u83 :: u84 :: u85 :: u86 :: u87 :: u88 :: u89 :: u90 :: u91 :: u92 :: u93 :: u94 :: u95 :: u96 :: u97 :: u98 :: u99 :: u100 :: u101 :: u102 :: u103 :: u104 :: u105 :: u106 :: u107 :: u108 :: u109 :: u110 :: u111 :: u112 :: u113 :: u114 :: u115 :: u116 :: u117 :: u118 :: u119 :: u120 :: u121 :: u122 :: u123 :: u124 :: u125 :: u126 :: u127 :: u128 :: u129 :: u130 :: u131 :: u132 :: u133 :: u134 :: u135 :: u136 :: u137 :: u138 :: u139 :: u140 :: u141 :: u142 :: u143 :: u144 :: u145 :: u146 :: u147 :: u148 :: u149 :: u150 :: u151 :: u152 :: u153 :: u154 :: u155 :: u156 :: u157 :: u158 :: u159 :: u160 :: u161 :: u162 :: u163 :: u164 :: u165 :: u166 :: u167 :: u168 :: u169 :: u170 :: u171 :: u172 :: u173 :: u174 :: u175 :: u176 :: u177 :: u178 :: u179 :: u180 :: u181 :: u182 :: u183 :: u184 :: u185 :: u186 :: u187 :: u188 :: u189 :: u190 :: u191 :: u192 :: u193 :: u194 :: u195 :: u196 :: u197 :: u198 :: u199 :: u200 :: u201 :: u202 :: u203 :: u204 :: u205 :: u206 :: u207 :: u208 :: u209 :: u210 :: u211 :: u212 :: u213 :: u214 :: u215 :: u216 :: u217 :: u218 :: u219 :: u220 :: u221 :: u222 :: u223 :: u224 :: u225 :: u226 :: u227 :: u228 :: u229 :: u230 :: u231 :: u232 :: u233 :: u234 :: u235 :: u236 :: u237 :: u238 :: u239 :: u240 :: u241 :: u242 :: u243 :: u244 :: u245 :: u246 :: u247 :: u248 :: u249 :: u250 :: u251 :: u252 :: u253 :: u254 :: u255 :: u256 :: u257 :: u258 :: u259 :: u260 :: u261 :: u262 :: u263 :: u264 :: u265 :: u266 :: u267 :: u268 :: u269 :: u270 :: u271 :: u272 :: u273 :: u274 :: u275 :: u276 :: u277 :: []).toArray, []⟩ w := by
  have HQ := Lib.hid hQ
  have HPP := Lib.hid hP
  clear hQ hP
  conv => arg 2; whnf
  have HL := Lib.hid (And.intro hs (And.intro hW (And.intro hn3 hn8)))
  have H0 := Lib.hid (And.intro hb3 (And.intro hb8 hb15))
  clear hb3 hb8 hb15 hs hW hn3 hn8
  go_wp2_with fail
  go_loopw [16] (fun i wr => ∃ k : Nat, k ≤ 64 ∧ i = .int .i64 k ∧ Blk wr p15 (u32s (rounds W k s)) 57 ∧ Turns [p15] w wr) (fun i _ => 64 - (intOf i).toNat)
  case atStart => exact ⟨0, by omega, rfl, H0.out.2.2, Turns.refl _ _⟩
  case round =>
    obtain ⟨k, hk, rfl, v7, td⟩ := hrel
    by_cases hlt : k < 64
    · have hl8 := rounds_len W s HL.out.1 k
      have hrd : rounds W (k + 1) s = round1 (rounds W k s) (shaK.getD k 0) (W.getD k 0) := rfl
      generalize rounds W k s = T at v7 hl8 hrd
      have b3 := H0.out.1.turns td (by simpa using HL.out.2.2.1)
      have b8 := H0.out.2.1.turns td (by simpa using HL.out.2.2.2)
      have ck := b3.cell k
      have cw := b8.cell k
      rw [u32s_get shaK k (by rw [shaK_length]; exact hlt)] at ck
      rw [u32s_get W k (by rw [HL.out.2.1]; exact hlt)] at cw
      have c0 := v7.cell 0
      have c1 := v7.cell 1
      have c2 := v7.cell 2
      have c3 := v7.cell 3
      have c4 := v7.cell 4
      have c5 := v7.cell 5
      have c6 := v7.cell 6
      have c7 := v7.cell 7
      rw [u32s_get T _ (by omega)] at c0 c1 c2 c3 c4 c5 c6 c7
      have hr1 := fun (x y : UInt32) => @round1_eq T (shaK.getD k 0) (W.getD k 0) _ _ _ _ _ _ _ _ rfl rfl rfl rfl rfl rfl rfl rfl x y
      generalize shaK.getD k 0 = kk at ck hrd hr1
      generalize W.getD k 0 = wk at cw hrd hr1
      generalize T.getD 0 0 = t0 at c0 hr1
      generalize T.getD 1 0 = t1 at c1 hr1
      generalize T.getD 2 0 = t2 at c2 hr1
      generalize T.getD 3 0 = t3 at c3 hr1
      generalize T.getD 4 0 = t4 at c4 hr1
      generalize T.getD 5 0 = t5 at c5 hr1
      generalize T.getD 6 0 = t6 at c6 hr1
      generalize T.getD 7 0 = t7 at c7 hr1
      have HR1 := Lib.hid hr1
      have HRD := Lib.hid hrd
      have HV := Lib.hid (And.intro v7 td)
      have HTL := Lib.hid hl8
      have hki : (k : Int) < 64 := by omega
      have HC := Lib.hid (And.intro ck cw)
      clear hr1 hrd v7 td hl8 b3 b8 ck cw
      go_upto_region 31 with fail
      refine ref_R31 p3 p8 p15 k t4 t5 t6 t7 kk wk wr hlt c5 c6 c7 HC.out.1 HC.out.2 (fun _ _ _ _ _ h => HPP.out _ _ _ _ _ h) ?_
      intro y148 y149 y150 y151 y152 y153 y154 y155 y156 y157 y158 y159 y160 y161 y162 y163 y164 y165 y166 y167 y168 y169 y170 y171 y172 y173 y174 y175 y176 y177 w1 hw1
      subst hw1
      go_upto_region 32 with fail
      refine ref_R32 p15 t0 t1 t2 wr.drew c0 c1 c2 (fun _ _ _ _ _ h => HPP.out _ _ _ _ _ h) ?_
      intro y178 y179 y180 y181 y182 y183 y184 y185 y186 y187 y188 y189 y190 y191 y192 y193 y194 y195 y196 y197 y198 y199 y200 y201 y202 y203 y204 y205 y206 w1 hw1
      subst hw1
      obtain ⟨x, hx⟩ : ∃ x, x = t7 + (ror t4 6 ^^^ ror t4 11 ^^^ ror t4 25) + ((t4 &&& t5) ^^^ (~~~t4 &&& t6)) + kk + wk := ⟨_, rfl⟩
      rw [← hx]
      obtain ⟨y, hy⟩ : ∃ y, y = (ror t0 2 ^^^ ror t0 13 ^^^ ror t0 22) + ((t0 &&& t1) ^^^ (t0 &&& t2) ^^^ (t1 &&& t2)) := ⟨_, rfl⟩
      rw [← hy]
      have HR := Lib.hid (show rounds W (k + 1) s = [x + y, t0, t1, t2, t3 + x, t4, t5, t6] by rw [HRD.out, HR1.out x y hx hy])
      have hne : [Value.int .u32 (IntKind.u32.wrap ((x.toNat : Int) + (y.toNat : Int))), .int .u32 t0.toNat, .int .u32 t1.toNat, .int .u32 t2.toNat, .int .u32 (IntKind.u32.wrap ((t3.toNat : Int) + (x.toNat : Int))), .int .u32 t4.toNat, .int .u32 t5.toNat, .int .u32 t6.toNat] = u32s [x + y, t0, t1, t2, t3 + x, t4, t5, t6] := by
        rw [wrapAdd, wrapAdd]; rfl
      have HN := Lib.hid hne
      have Q_b7 := Lib.hid (HV.out.1.drew).drew
      have Q_one := Lib.hid (u32s_one [x + y, t0, t1, t2, t3 + x, t4, t5, t6])
      have Q_len := Lib.hid (show (u32s T).length = (u32s [x + y, t0, t1, t2, t3 + x, t4, t5, t6]).length by rw [u32s_length, u32s_length, HTL.out]; rfl)
      have Q_sz := Lib.hid (show (Try.prog.info? 57).map (·.size) = some (u32s [x + y, t0, t1, t2, t3 + x, t4, t5, t6]).length by rw [size_a8, u32s_length]; rfl)
      clear hx hy hne
      go_wp2_with (first
        | (refine wpList_store_blk rfl 57 (.tmp 15) (.tmp 226) rfl p15 (by kernel_rfl) (u32s [x + y, t0, t1, t2, t3 + x, t4, t5, t6]) (u32s T) 57 (by rw [← HN.out]; kernel_rfl) Q_b7.out Q_len.out Q_sz.out Q_one.out (fun y1 hb1 ht1 hs1 => ?_); have HQ' := Lib.hid (And.intro hb1 ht1); clear hb1 ht1 hs1)
        | fail)
      go_roundw
      case rel => exact ⟨k + 1, by omega, by go_num, by rw [HR.out]; exact HQ'.out.1, (HV.out.2.drew).drew.trans HQ'.out.2 (by simp)⟩
      case measure => (simp [intOf] <;> omega)
    · obtain rfl : k = 64 := by omega
      have z64 : ¬ ((64 : Nat) : Int) < 64 := by omega
      have HV := Lib.hid (And.intro v7 td)
      clear v7 td
      go_wp2_with fail
      exact HQ.out _ _ _ _ _ _ _ _ _ _ _ _ _ _ _ _ _ _ _ _ _ _ _ _ _ _ _ _ _ _ _ _ _ _ _ _ _ _ _ _ _ _ _ _ _ _ _ _ _ _ _ _ _ _ _ _ _ _ _ _ _ _ _ _ _ _ _ _ _ _ _ _ _ _ _ _ _ _ _ _ _ _ _ _ _ _ _ _ _ _ HV.out
end Go.Proofs.Ytibolcekhdapaaa
