/- The reference's sum, piece by piece: the first words of a piece. -/
import Derived.Test.YtibolcekhdapaaaRefB
namespace Go.Proofs.Ytibolcekhdapaaa
open Go.RowKit
set_option linter.unusedVariables false
set_option maxRecDepth 10000
set_option linter.unusedSimpArgs false
set_option linter.unnecessarySimpa false

theorem getD_drop (d : List UInt8) (p j : Nat) : (d.drop p).getD j 0 = d.getD (p + j) 0 := by simp [List.getD, List.getElem?_drop]
set_option maxRecDepth 1000000 in
set_option maxHeartbeats 4000000 in
theorem ref_L6 {Q : Exit → Act → World → Prop} {u0 u1 u2 u3 u4 u6 u7 u11 u12 u13 u14 u15 u16 u17 u18 u19 u20 u21 u22 u23 u24 u25 u26 u27 u28 u29 u30 u31 u32 u33 u34 u35 u36 u37 u38 u39 u40 u41 u42 u43 u44 u45 u46 u47 u48 u49 u50 u51 u52 u53 u54 u55 u56 u57 u58 u59 u60 u61 u62 u63 u64 u65 u66 u67 u68 u69 u70 u71 u72 u73 u74 u75 u76 u77 u78 u79 u80 u81 u82 u83 u84 u85 u86 u87 u88 u89 u90 u91 u92 u93 u94 u95 u96 u97 u98 u99 u100 u101 u102 u103 u104 u105 u106 u107 u108 u109 u110 u111 u112 u113 u114 u115 u116 u117 u118 u119 u120 u121 u122 u123 u124 u125 u126 u127 u128 u129 u130 u131 u132 u133 u134 u135 u136 u137 u138 u139 u140 u141 u142 u143 u144 u145 u146 u147 u148 u149 u150 u151 u152 u153 u154 u155 u156 u157 u158 u159 u160 u161 u162 u163 u164 u165 u166 u167 u168 u169 u170 u171 u172 u173 u174 u175 u176 u177 u178 u179 u180 u181 u182 u183 u184 u185 u186 u187 u188 u189 u190 u191 u192 u193 u194 u195 u196 u197 u198 u199 u200 u201 u202 u203 u204 u205 u206 u207 u208 u209 u210 u211 u212 u213 u214 u215 u216 u217 u218 u219 u220 u221 u222 u223 u224 u225 u226 u227 u228 u229 u230 u231 u232 u233 u234 u235 u236 u237 u238 u239 u240 u241 u242 u243 u244 u245 u246 u247 u248 u249 u250 u251 u252 u253 u254 u255 u256 u257 u258 u259 u260 u261 u262 u263 u264 u265 u266 u267 u268 u269 u270 u271 u272 u273 u274 u275 u276 u277 : Value} (p8 p n c bb ob : Nat) (d : List UInt8) (l : List UInt32) (w : World) (hpn : p + 64 ≤ n) (hn : n ≤ 2000000000) (hl : l.length = 64) (hne : bb ≠ p8) (hb : Blk w p8 (u32s l) 55)
    (hby : ∀ j, j < n → w.cell? ⟨bb, ob + j, none⟩ = some (.int .u8 ((d.getD j 0).toNat : Int)))
    (hP : ∀ c (a : Act) (w : World) o v, Q (.panic c) (a.put o v) w → Q (.panic c) a w)
    (hQ : ∀ (x10 x11 x61 x62 x63 x64 x65 x66 x67 x68 x69 x70 x71 x72 x73 x74 x75 x76 x77 x78 x79 x80 x81 x82 x83 x84 x85 x86 x87 x88 x89 x90 x91 x92 x93 x94 x95 x96 x97 x98 x99 : Value)  (w1 : World), (Blk w1 p8 (u32s (spreadTo (d.drop p) 16 l)) 55 ∧ Turns [p8] w w1) → Q .normal ⟨(u0 :: u1 :: u2 :: u3 :: u4 :: (.slice (some ⟨bb, ob, none⟩) n c) :: u6 :: u7 :: (.pointer (some ⟨p8, 0, none⟩)) :: (.int .i64 (p : Int)) :: x10 :: x11 :: u12 :: u13 :: u14 :: u15 :: u16 :: u17 :: u18 :: u19 :: u20 :: u21 :: u22 :: u23 :: u24 :: u25 :: u26 :: u27 :: u28 :: u29 :: u30 :: u31 :: u32 :: u33 :: u34 :: u35 :: u36 :: u37 :: u38 :: u39 :: u40 :: u41 :: u42 :: u43 :: u44 :: u45 :: u46 :: u47 :: u48 :: u49 :: u50 :: u51 :: u52 :: u53 :: u54 :: u55 :: u56 :: u57 :: u58 :: u59 :: u60 :: x61 :: x62 :: x63 :: x64 :: x65 :: x66 :: x67 :: x68 :: x69 :: x70 :: x71 :: x72 :: x73 :: x74 :: x75 :: x76 :: x77 :: x78 :: x79 :: x80 :: x81 :: x82 :: x83 :: x84 :: x85 :: x86 :: x87 :: x88 :: x89 :: x90 :: x91 :: x92 :: x93 :: x94 :: x95 :: x96 :: x97 :: x98 :: x99 :: u100 :: u101 :: u102 :: u103 :: u104 :: u105 :: u106 :: u107 :: u108 :: u109 :: u110 :: u111 :: u112 :: u113 :: u114 :: u115 :: u116 :: u117 :: u118 :: u119 :: u120 :: u121 :: u122 :: u123 :: u124 :: u125 :: u126 :: u127 :: u128 :: u129 :: u130 :: u131 :: u132 :: u133 :: u134 :: u135 :: u136 :: u137 :: u138 :: u139 :: u140 :: u141 :: u142 :: u143 :: u144 :: u145 :: u146 :: u147 :: u148 :: u149 :: u150 :: u151 :: u152 :: u153 :: u154 :: u155 :: u156 :: u157 :: u158 :: u159 :: u160 :: u161 :: u162 :: u163 :: u164 :: u165 :: u166 :: u167 :: u168 :: u169 :: u170 :: u171 :: u172 :: u173 :: u174 :: u175 :: u176 :: u177 :: u178 :: u179 :: u180 :: u181 :: u182 :: u183 :: u184 :: u185 :: u186 :: u187 :: u188 :: u189 :: u190 :: u191 :: u192 :: u193 :: u194 :: u195 :: u196 :: u197 :: u198 :: u199 :: u200 :: u201 :: u202 :: u203 :: u204 :: u205 :: u206 :: u207 :: u208 :: u209 :: u210 :: u211 :: u212 :: u213 :: u214 :: u215 :: u216 :: u217 :: u218 :: u219 :: u220 :: u221 :: u222 :: u223 :: u224 :: u225 :: u226 :: u227 :: u228 :: u229 :: u230 :: u231 :: u232 :: u233 :: u234 :: u235 :: u236 :: u237 :: u238 :: u239 :: u240 :: u241 :: u242 :: u243 :: u244 :: u245 :: u246 :: u247 :: u248 :: u249 :: u250 :: u251 :: u252 :: u253 :: u254 :: u255 :: u256 :: u257 :: u258 :: u259 :: u260 :: u261 :: u262 :: u263 :: u264 :: u265 :: u266 :: u267 :: u268 :: u269 :: u270 :: u271 :: u272 :: u273 :: u274 :: u275 :: u276 :: u277 :: []).toArray, []⟩ w1) :
    Code.wp Try.prog ((Try.f11.body.bind (codeBlock 6)).getD .skip) Q ⟨(u0 :: u1 :: u2 :: u3 :: u4 :: (.slice (some ⟨bb, ob, none⟩) n c) :: u6 :: u7 :: (.pointer (some ⟨p8, 0, none⟩)) :: (.int .i64 (p : Int)) :: (.int .i64 0) :: u11 :: u12 :: u13 :: u14 :: u15 :: u16 :: u17 :: u18 :: u19 :: u20 :: u21 :: u22 :: u23 :: u24 :: u25 :: u26 :: u27 :: u28 :: u29 :: u30 :: u31 :: u32 :: u33 :: u34 :: u35 :: u36 :: u37 :: u38 :: u39 :: u40 :: u41 :: u42 :: u43 :: u44 :: u45 :: u46 :: u47 :: u48 :: u49 :: u50 :: u51 :: u52 :: u53 :: u54 :: u55 :: u56 :: u57 :: u58 :: u59 :: u60 :: u61 :: u62 :: u63 :: u64 :: u65 :: u66 :: u67 :: u68 :: u69 :: u70 :: u71 :: u72 :: u73 :: u74 :: u75 :: u76 :: u77 :: u78 :: u79 :: u80 :: u81 :: u82 :: u83 :: u84 :: u85 :: u86 :: u87 :: u88 :: u89 :: u90 :: u91 :: u92 :: u93 :: u94 :: u95 :: u96 :: u97 :: u98 :: u99 :: u100 :: u101 :: u102 :: u103 :: u104 :: u105 :: u106 :: u107 :: u108 :: u109 :: u110 :: u111 :: u112 :: u113 :: u114 :: u115 :: u116 :: u117 :: u118 :: u119 :: u120 :: u121 :: u122 :: u123 :: u124 :: u125 :: u126 :: u127 :: u128 :: u129 :: u130 :: u131 :: u132 :: u133 :: u134 :: u135 :: u136 :: u137 :: u138 :: u139 :: u140 :: u141 :: u142 :: u143 :: u144 :: u145 :: u146 :: u147 :: u148 :: u149 :: u150 :: u151 :: u152 :: u153 :: u154 :: u155 :: u156 :: u157 :: u158 :: u159 :: u160 :: u161 :: u162 :: u163 :: u164 :: u165 :: u166 :: u167 :: u168 :: u169 :: u170 :: u171 :: u172 :: u173 :: u174 :: u175 :: u176 :: u177 :: u178 :: u179 :: u180 :: u181 :: u182 :: u183 :: u184 :: u185 :: u186 :: u187 :: u188 :: u189 :: u190 :: u191 :: u192 :: u193 :: u194 :: u195 :: u196 :: u197 :: u198 :: u199 :: u200 :: u201 :: u202 :: u203 :: u204 :: u205 :: u206 :: u207 :: u208 :: u209 :: u210 :: u211 :: u212 :: u213 :: u214 :: u215 :: u216 :: u217 :: u218 :: u219 :: u220 :: u221 :: u222 :: u223 :: u224 :: u225 :: u226 :: u227 :: u228 :: u229 :: u230 :: u231 :: u232 :: u233 :: u234 :: u235 :: u236 :: u237 :: u238 :: u239 :: u240 :: u241 :: u242 :: u243 :: u244 :: u245 :: u246 :: u247 :: u248 :: u249 :: u250 :: u251 :: u252 :: u253 :: u254 :: u255 :: u256 :: u257 :: u258 :: u259 :: u260 :: u261 :: u262 :: u263 :: u264 :: u265 :: u266 :: u267 :: u268 :: u269 :: u270 :: u271 :: u272 :: u273 :: u274 :: u275 :: u276 :: u277 :: []).toArray, []⟩ w := by
  have HQ := Lib.hid hQ
  have HPP := Lib.hid hP
  clear hQ hP
  conv => arg 2; whnf
  have HB := Lib.hid (And.intro hby (And.intro hl (And.intro hne hpn)))
  have H0 := Lib.hid hb
  have hp1 : (p : Int) ≤ 2000000000 := by omega
  have hn1 : (n : Int) ≤ 2000000000 := by omega
  have HN := Lib.hid hn
  clear hby hb hl hne hpn hn
  go_wp2_with fail
  go_loopw [10] (fun i wr => ∃ k : Nat, k ≤ 16 ∧ i = .int .i64 k ∧ Blk wr p8 (u32s (spreadTo (d.drop p) k l)) 55 ∧ Turns [p8] w wr) (fun i _ => 16 - (intOf i).toNat)
  case atStart => exact ⟨0, by omega, rfl, H0.out, Turns.refl _ _⟩
  case round =>
    obtain ⟨k, hk, rfl, v3, td⟩ := hrel
    by_cases hlt : k < 16
    · have hlen : (spreadTo (d.drop p) k l).length = 64 := by rw [spreadTo_len]; exact HB.out.2.1
      have c3 := v3.cell k
      have f3 := v3.free k
      rw [u32s_get _ _ (by omega)] at c3
      have hpn := HB.out.2.2.2
      have hne := HB.out.2.2.1
      have q0 := cellL td (HB.out.1 (p + 4 * k) (by omega)) (by simpa using hne)
      have q1 := cellL td (HB.out.1 (p + 4 * k + 1) (by omega)) (by simpa using hne)
      have q2 := cellL td (HB.out.1 (p + 4 * k + 2) (by omega)) (by simpa using hne)
      have q3 := cellL td (HB.out.1 (p + 4 * k + 3) (by omega)) (by simpa using hne)
      have b0 := (d.getD (p + 4 * k) 0).toNat_lt
      have b1 := (d.getD (p + 4 * k + 1) 0).toNat_lt
      have b2 := (d.getD (p + 4 * k + 2) 0).toNat_lt
      have b3 := (d.getD (p + 4 * k + 3) 0).toNat_lt
      have hki : (k : Int) < 16 := by omega
      have HV := Lib.hid (And.intro v3 td)
      have QS := Lib.hid (And.intro (And.intro q0 (And.intro q1 (And.intro q2 q3))) (And.intro (And.intro b0 (And.intro b1 (And.intro b2 b3))) (And.intro c3 f3)))
      clear v3 td q0 q1 q2 q3 b0 b1 b2 b3 c3 f3 hlen hpn hne
      go_upto_region 20 with fail
      rw [show (p : Int) + 4 * (k : Int) = ((p + 4 * k : Nat) : Int) by omega]
      refine ref_R20 p8 k (p + 4 * k) n c bb ob _ _ _ _ _ wr hlt (by have := HB.out.2.2.2; omega) HN.out ?_ ?_ ?_ ?_ QS.out.1.1 QS.out.1.2.1 QS.out.1.2.2.1 QS.out.1.2.2.2 QS.out.2.2.1 QS.out.2.2.2 (fun _ _ _ _ _ h => HPP.out _ _ _ _ _ h) ?_
      · have := QS.out.2.1.1; omega
      · have := QS.out.2.1.2.1; omega
      · have := QS.out.2.1.2.2.1; omega
      · have := QS.out.2.1.2.2.2; omega
      intro y69 y70 y71 y72 y73 y74 y75 y76 y77 y78 y79 y80 y81 y82 y83 y84 y85 y86 y87 y88 y89 y90 y91 y92 y93 y94 y95 y96 y97 y98 y99 w1 hw1
      subst hw1
      have hwd := word_or (d.drop p) k
      simp only [getD_drop, ← Nat.add_assoc] at hwd
      rw [hwd]
      obtain ⟨v3, td⟩ := HV.out
      have v3z := (v3.set k (.int .u32 ((word32 (d.drop p) k).toNat : Int))).drew
      rw [u32s_set] at v3z
      have hst : spreadTo (d.drop p) (k + 1) l = (spreadTo (d.drop p) k l).set k (word32 (d.drop p) k) := by rw [spreadTo, if_pos hlt]
      rw [← hst] at v3z
      have tdz := (td.setCell (p := ⟨p8, k, none⟩) (.inl (by simp)) (.int .u32 ((word32 (d.drop p) k).toNat : Int))).drew
      have HF := Lib.hid (And.intro v3z tdz)
      clear v3 td v3z tdz hst hwd
      go_wp2_with fail
      go_roundw
      case rel => exact ⟨k + 1, by omega, by go_num, HF.out.1, HF.out.2⟩
      case measure => (simp [intOf] <;> omega)
    · obtain rfl : k = 16 := by omega
      have HV := Lib.hid (And.intro v3 td)
      have z16 : ¬ ((16 : Nat) : Int) < 16 := by omega
      clear v3 td
      go_wp2_with fail
      exact HQ.out _ _ _ _ _ _ _ _ _ _ _ _ _ _ _ _ _ _ _ _ _ _ _ _ _ _ _ _ _ _ _ _ _ _ _ _ _ _ _ _ _ _ HV.out
end Go.Proofs.Ytibolcekhdapaaa
