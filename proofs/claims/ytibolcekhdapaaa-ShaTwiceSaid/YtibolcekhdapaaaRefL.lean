/- The reference's sum, piece by piece: all pieces. -/
import Derived.Test.YtibolcekhdapaaaRefG
import Derived.Test.YtibolcekhdapaaaRefH
import Derived.Test.YtibolcekhdapaaaRefI
import Derived.Test.YtibolcekhdapaaaRefJ
namespace Go.Proofs.Ytibolcekhdapaaa
open Go.RowKit
set_option linter.unusedVariables false
set_option maxRecDepth 10000
set_option linter.unusedSimpArgs false
set_option linter.unnecessarySimpa false

theorem word32_take (b : List UInt8) (k : Nat) (hk : k < 16) : word32 (b.take 64) k = word32 b k := by
  unfold word32
  simp only [List.getD_eq_getElem?_getD, List.getElem?_take]
  rw [if_pos (by omega), if_pos (by omega), if_pos (by omega), if_pos (by omega)]
theorem spreadTo_take (b : List UInt8) : ∀ (k : Nat) (l : List UInt32), spreadTo (b.take 64) k l = spreadTo b k l
  | 0, l => rfl
  | k + 1, l => by
    rw [spreadTo, spreadTo, spreadTo_take b k l]
    by_cases h : k < 16
    · rw [if_pos h, if_pos h, word32_take b k h]
    · rw [if_neg h, if_neg h]
theorem addL_comm (s t : List UInt32) : addL s t = addL t s := by
  unfold addL
  apply List.map_congr_left
  intro i _
  rw [UInt32.add_comm]
theorem stP_step (d : List UInt8) (k p : Nat) (hp : p = 64 * k) : stP d (k + 1) = addL (rounds (spread (d.drop p)) 64 (stP d k)) (stP d k) := by
  subst hp
  rw [stP, take1, addL_comm]
  unfold spread
  rw [spreadTo_take]
theorem zero_a8 : (Try.prog.info? 57).bind (·.zero) = some (.agg (u32s (zerosW 8)).toArray) := by kernel_rfl
set_option maxRecDepth 1000000 in
set_option maxHeartbeats 4000000 in
theorem ref_L4 {Q : Exit → Act → World → Prop} {u0 u1 u2 u6 u7 u10 u11 u12 u13 u14 u15 u16 u17 u18 u19 u20 u21 u22 u23 u24 u25 u26 u27 u28 u29 u30 u31 u32 u33 u34 u35 u36 u37 u38 u39 u40 u41 u42 u43 u44 u45 u46 u47 u48 u49 u50 u51 u52 u53 u54 u55 u56 u57 u58 u59 u60 u61 u62 u63 u64 u65 u66 u67 u68 u69 u70 u71 u72 u73 u74 u75 u76 u77 u78 u79 u80 u81 u82 u83 u84 u85 u86 u87 u88 u89 u90 u91 u92 u93 u94 u95 u96 u97 u98 u99 u100 u101 u102 u103 u104 u105 u106 u107 u108 u109 u110 u111 u112 u113 u114 u115 u116 u117 u118 u119 u120 u121 u122 u123 u124 u125 u126 u127 u128 u129 u130 u131 u132 u133 u134 u135 u136 u137 u138 u139 u140 u141 u142 u143 u144 u145 u146 u147 u148 u149 u150 u151 u152 u153 u154 u155 u156 u157 u158 u159 u160 u161 u162 u163 u164 u165 u166 u167 u168 u169 u170 u171 u172 u173 u174 u175 u176 u177 u178 u179 u180 u181 u182 u183 u184 u185 u186 u187 u188 u189 u190 u191 u192 u193 u194 u195 u196 u197 u198 u199 u200 u201 u202 u203 u204 u205 u206 u207 u208 u209 u210 u211 u212 u213 u214 u215 u216 u217 u218 u219 u220 u221 u222 u223 u224 u225 u226 u227 u228 u229 u230 u231 u232 u233 u234 u235 u236 u237 u238 u239 u240 u241 u242 u243 u244 u245 u246 u247 u248 u249 u250 u251 u252 u253 u254 u255 u256 u257 u258 u259 u260 u261 u262 u263 u264 u265 u266 u267 u268 u269 u270 u271 u272 u273 u274 u275 u276 u277 : Value} (p3 p4 p8 n c bb ob : Nat) (d : List UInt8) (l0 : List UInt32) (w : World) (hn : n ≤ 2000000000) (hnd : d.length = n) (hnm : n % 64 = 0) (hl0 : l0.length = 64) (hb4' : bb ≠ p4) (hb8' : bb ≠ p8) (h34 : p3 ≠ p4) (h38 : p3 ≠ p8) (h48 : p4 ≠ p8) (hbl : bb < w.heap.size)
    (hb3 : Blk w p3 (u32s shaK) 55) (hb4 : Blk w p4 (u32s (stP d 0)) 57) (hb8 : Blk w p8 (u32s l0) 55)
    (hby : ∀ j, j < n → w.cell? ⟨bb, ob + j, none⟩ = some (.int .u8 ((d.getD j 0).toNat : Int)))
    (hP : ∀ c (a : Act) (w : World) o v, Q (.panic c) (a.put o v) w → Q (.panic c) a w)
    (hQ : ∀ (x9 x10 x11 x12 x13 x14 x15 x16 x17 x18 x19 x20 x55 x56 x57 x58 x59 x60 x61 x62 x63 x64 x65 x66 x67 x68 x69 x70 x71 x72 x73 x74 x75 x76 x77 x78 x79 x80 x81 x82 x83 x84 x85 x86 x87 x88 x89 x90 x91 x92 x93 x94 x95 x96 x97 x98 x99 x100 x101 x102 x103 x104 x105 x106 x107 x108 x109 x110 x111 x112 x113 x114 x115 x116 x117 x118 x119 x120 x121 x122 x123 x124 x125 x126 x127 x128 x129 x130 x131 x132 x133 x134 x135 x136 x137 x138 x139 x140 x141 x142 x143 x144 x145 x146 x147 x148 x149 x150 x151 x152 x153 x154 x155 x156 x157 x158 x159 x160 x161 x162 x163 x164 x165 x166 x167 x168 x169 x170 x171 x172 x173 x174 x175 x176 x177 x178 x179 x180 x181 x182 x183 x184 x185 x186 x187 x188 x189 x190 x191 x192 x193 x194 x195 x196 x197 x198 x199 x200 x201 x202 x203 x204 x205 x206 x207 x208 x209 x210 x211 x212 x213 x214 x215 x216 x217 x218 x219 x220 x221 x222 x223 x224 x225 x226 x227 x228 x229 x230 x231 x232 x233 x234 x235 x236 x237 x238 : Value)  (w1 : World), (Blk w1 p4 (u32s (stP d (n / 64))) 57 ∧ Turns [p4, p8] w w1) → Q .normal ⟨(u0 :: u1 :: u2 :: (.pointer (some ⟨p3, 0, none⟩)) :: (.pointer (some ⟨p4, 0, none⟩)) :: (.slice (some ⟨bb, ob, none⟩) n c) :: u6 :: u7 :: (.pointer (some ⟨p8, 0, none⟩)) :: x9 :: x10 :: x11 :: x12 :: x13 :: x14 :: x15 :: x16 :: x17 :: x18 :: x19 :: x20 :: u21 :: u22 :: u23 :: u24 :: u25 :: u26 :: u27 :: u28 :: u29 :: u30 :: u31 :: u32 :: u33 :: u34 :: u35 :: u36 :: u37 :: u38 :: u39 :: u40 :: u41 :: u42 :: u43 :: u44 :: u45 :: u46 :: u47 :: u48 :: u49 :: u50 :: u51 :: u52 :: u53 :: u54 :: x55 :: x56 :: x57 :: x58 :: x59 :: x60 :: x61 :: x62 :: x63 :: x64 :: x65 :: x66 :: x67 :: x68 :: x69 :: x70 :: x71 :: x72 :: x73 :: x74 :: x75 :: x76 :: x77 :: x78 :: x79 :: x80 :: x81 :: x82 :: x83 :: x84 :: x85 :: x86 :: x87 :: x88 :: x89 :: x90 :: x91 :: x92 :: x93 :: x94 :: x95 :: x96 :: x97 :: x98 :: x99 :: x100 :: x101 :: x102 :: x103 :: x104 :: x105 :: x106 :: x107 :: x108 :: x109 :: x110 :: x111 :: x112 :: x113 :: x114 :: x115 :: x116 :: x117 :: x118 :: x119 :: x120 :: x121 :: x122 :: x123 :: x124 :: x125 :: x126 :: x127 :: x128 :: x129 :: x130 :: x131 :: x132 :: x133 :: x134 :: x135 :: x136 :: x137 :: x138 :: x139 :: x140 :: x141 :: x142 :: x143 :: x144 :: x145 :: x146 :: x147 :: x148 :: x149 :: x150 :: x151 :: x152 :: x153 :: x154 :: x155 :: x156 :: x157 :: x158 :: x159 :: x160 :: x161 :: x162 :: x163 :: x164 :: x165 :: x166 :: x167 :: x168 :: x169 :: x170 :: x171 :: x172 :: x173 :: x174 :: x175 :: x176 :: x177 :: x178 :: x179 :: x180 :: x181 :: x182 :: x183 :: x184 :: x185 :: x186 :: x187 :: x188 :: x189 :: x190 :: x191 :: x192 :: x193 :: x194 :: x195 :: x196 :: x197 :: x198 :: x199 :: x200 :: x201 :: x202 :: x203 :: x204 :: x205 :: x206 :: x207 :: x208 :: x209 :: x210 :: x211 :: x212 :: x213 :: x214 :: x215 :: x216 :: x217 :: x218 :: x219 :: x220 :: x221 :: x222 :: x223 :: x224 :: x225 :: x226 :: x227 :: x228 :: x229 :: x230 :: x231 :: x232 :: x233 :: x234 :: x235 :: x236 :: x237 :: x238 :: u239 :: u240 :: u241 :: u242 :: u243 :: u244 :: u245 :: u246 :: u247 :: u248 :: u249 :: u250 :: u251 :: u252 :: u253 :: u254 :: u255 :: u256 :: u257 :: u258 :: u259 :: u260 :: u261 :: u262 :: u263 :: u264 :: u265 :: u266 :: u267 :: u268 :: u269 :: u270 :: u271 :: u272 :: u273 :: u274 :: u275 :: u276 :: u277 :: []).toArray, []⟩ w1) :
    Code.wp Try.prog ((Try.f11.body.bind (codeBlock 4)).getD .skip) Q ⟨(u0 :: u1 :: u2 :: (.pointer (some ⟨p3, 0, none⟩)) :: (.pointer (some ⟨p4, 0, none⟩)) :: (.slice (some ⟨bb, ob, none⟩) n c) :: u6 :: u7 :: (.pointer (some ⟨p8, 0, none⟩)) :: (.int .i64 0) :: u10 :: u11 :: u12 :: u13 :: u14 :: u15 :: u16 :: u17 :: u18 :: u19 :: u20 :: u21 :: u22 :: u23 :: u24 :: u25 :: u26 :: u27 :: u28 :: u29 :: u30 :: u31 :: u32 :: u33 :: u34 :: u35 :: u36 :: u37 :: u38 :: u39 :: u40 :: u41 :: u42 :: u43 :: u44 :: u45 :: u46 :: u47 :: u48 :: u49 :: u50 :: u51 :: u52 :: u53 :: u54 :: u55 :: u56 :: u57 :: u58 :: u59 :: u60 :: u61 :: u62 :: u63 :: u64 :: u65 :: u66 :: u67 :: u68 :: u69 :: u70 :: u71 :: u72 :: u73 :: u74 :: u75 :: u76 :: u77 :: u78 :: u79 :: u80 :: u81 :: u82 :: u83 :: u84 :: u85 :: u86 :: u87 :: u88 :: u89 :: u90 :: u91 :: u92 :: u93 :: u94 :: u95 :: u96 :: u97 :: u98 :: u99 :: u100 :: u101 :: u102 :: u103 :: u104 :: u105 :: u106 :: u107 :: u108 :: u109 :: u110 :: u111 :: u112 :: u113 :: u114 :: u115 :: u116 :: u117 :: u118 :: u119 :: u120 :: u121 :: u122 :: u123 :: u124 :: u125 :: u126 :: u127 :: u128 :: u129 :: u130 :: u131 :: u132 :: u133 :: u134 :: u135 :: u136 :: u137 :: u138 :: u139 :: u140 :: u141 :: u142 :: u143 :: u144 :: u145 :: u146 :: u147 :: u148 :: u149 :: u150 :: u151 :: u152 :: u153 :: u154 :: u155 :: u156 :: u157 :: u158 :: u159 :: u160 :: u161 :: u162 :: u163 :: u164 :: u165 :: u166 :: u167 :: u168 :: u169 :: u170 :: u171 :: u172 :: u173 :: u174 :: u175 :: u176 :: u177 :: u178 :: u179 :: u180 :: u181 :: u182 :: u183 :: u184 :: u185 :: u186 :: u187 :: u188 :: u189 :: u190 :: u191 :: u192 :: u193 :: u194 :: u195 :: u196 :: u197 :: u198 :: u199 :: u200 :: u201 :: u202 :: u203 :: u204 :: u205 :: u206 :: u207 :: u208 :: u209 :: u210 :: u211 :: u212 :: u213 :: u214 :: u215 :: u216 :: u217 :: u218 :: u219 :: u220 :: u221 :: u222 :: u223 :: u224 :: u225 :: u226 :: u227 :: u228 :: u229 :: u230 :: u231 :: u232 :: u233 :: u234 :: u235 :: u236 :: u237 :: u238 :: u239 :: u240 :: u241 :: u242 :: u243 :: u244 :: u245 :: u246 :: u247 :: u248 :: u249 :: u250 :: u251 :: u252 :: u253 :: u254 :: u255 :: u256 :: u257 :: u258 :: u259 :: u260 :: u261 :: u262 :: u263 :: u264 :: u265 :: u266 :: u267 :: u268 :: u269 :: u270 :: u271 :: u272 :: u273 :: u274 :: u275 :: u276 :: u277 :: []).toArray, []⟩ w := by
  have HQ := Lib.hid hQ
  have HPP := Lib.hid hP
  clear hQ hP
  conv => arg 2; whnf
  have HL := Lib.hid (And.intro (And.intro hnd hnm) (And.intro hl0 (And.intro hb4' (And.intro hb8' (And.intro h34 (And.intro h38 h48))))))
  have HBY := Lib.hid hby
  have H0 := Lib.hid (And.intro hb3 (And.intro hb4 hb8))
  have HLT := Lib.hid (And.intro hb3.lt (And.intro hb4.lt (And.intro hb8.lt hbl)))
  have hn1 : (n : Int) ≤ 2000000000 := by omega
  have HNN := Lib.hid hn
  clear hnd hnm hl0 hb4' hb8' h34 h38 h48 hb3 hb4 hb8 hby hbl hn
  have hz8 := zero_a8
  have hzl := zerosW_len 8
  generalize hzz : u32s (zerosW 8) = zz at hz8 hzl
  have HZL := Lib.hid hzl
  clear hzz hzl
  go_wp2_with fail
  go_loopw [9] (fun i wr => ∃ (k p : Nat) (l : List UInt32), p = 64 * k ∧ p ≤ n ∧ l.length = 64 ∧ i = .int .i64 p ∧ Blk wr p4 (u32s (stP d k)) 57 ∧ Blk wr p8 (u32s l) 55 ∧ Turns [p4, p8] w wr) (fun i _ => n - (intOf i).toNat)
  case atStart => exact ⟨0, 0, l0, by omega, by omega, HL.out.2.1, rfl, H0.out.2.1, H0.out.2.2, Turns.refl _ _⟩
  case round =>
    obtain ⟨k, p, l, hpk, hpn, hl, rfl, v4, v8, td⟩ := hrel
    have HPK := Lib.hid hpk
    have b3 := H0.out.1.turns td (by simpa using ⟨HL.out.2.2.2.2.1, HL.out.2.2.2.2.2.1⟩)
    have hts := td.size
    have hlt := HLT.out
    have hln := HL.out
    by_cases hpl : p < n
    · have hp64 : p + 64 ≤ n := by omega
      have hpi : (p : Int) < (n : Int) := by omega
      have by1 := fun j hj => cellL td (HBY.out j hj) (by simpa using ⟨hln.2.2.1, hln.2.2.2.1⟩)
      have hsl := stP_len d k
      have hst := stP_step d k p hpk
      have L6 := Lib.hid (And.intro hl (And.intro v8 by1))
      have HV := Lib.hid (And.intro v4 (And.intro b3 td))
      have HS := Lib.hid (And.intro hsl hst)
      have h1s := u32s_one (stP d k)
      have hul : (u32s (stP d k)).length = 8 := by rw [u32s_length, hsl]
      have HP64 := Lib.hid hp64
      have HH1 := Lib.hid (And.intro hts (And.intro hlt hln))
      clear hl v8 by1 v4 b3 td hsl hst hpk hts hlt hln hp64 hpl hpn
      go_upto_block 6 with fail
      refine ref_L6 p8 p n c bb ob d l wr HP64.out HNN.out L6.out.1 HL.out.2.2.2.1 L6.out.2.1 L6.out.2.2 (fun _ _ _ _ _ h => HPP.out _ _ _ _ _ h) ?_
      intro y10 y11 y61 y62 y63 y64 y65 y66 y67 y68 y69 y70 y71 y72 y73 y74 y75 y76 y77 y78 y79 y80 y81 y82 y83 y84 y85 y86 y87 y88 y89 y90 y91 y92 y93 y94 y95 y96 y97 y98 y99 w1 ⟨b8, t8⟩
      have HA := Lib.hid (And.intro b8 t8)
      clear b8 t8
      go_upto_block 8 with fail
      refine ref_L8 p8 (d.drop p) l w1 L6.out.1 HA.out.1 (fun _ _ _ _ _ h => HPP.out _ _ _ _ _ h) ?_
      intro y12 y13 y14 y100 y101 y102 y103 y104 y105 y106 y107 y108 y109 y110 y111 y112 y113 y114 y115 y116 y117 y118 y119 y120 y121 y122 y123 y124 y125 y126 y127 y128 y129 y130 y131 y132 y133 y134 y135 y136 y137 y138 y139 y140 w2 ⟨b8, t8⟩
      rw [spread_any _ l L6.out.1] at b8
      have hsp := spread_len (d.drop p)
      have hbl := b8.lt
      have t02 : Turns [p8] wr w2 := HA.out.2.trans t8 (by simp)
      have v4 := HV.out.1.turns t02 (by simpa using HL.out.2.2.2.2.2.2)
      have v3 := HV.out.2.1.turns t02 (by simpa using HL.out.2.2.2.2.2.1)
      have r4 := v4.range 0 8
      rw [List.drop_zero, List.take_of_length_le (by omega)] at r4
      have b15 := Blk.new w2 zz 57
      have ta : Turns [] w2 (w2.alloc (.cells zz.toArray 57)) := (Turns.refl _ _).alloc _
      have l4 := v4.lt
      have l3 := v3.lt
      have HB := Lib.hid (And.intro b8 (And.intro v4 (And.intro v3 (And.intro t02 (And.intro r4 (And.intro b15 ta))))))
      obtain ⟨us, hus⟩ : ∃ us, us = u32s (stP d k) := ⟨_, rfl⟩
      rw [← hus] at h1s hul
      have HUS := Lib.hid hus
      rw [← hus] at HB
      have Q_1 := Lib.hid h1s
      have Q_l := Lib.hid (show zz.length = us.length by rw [HZL.out, hul])
      have Q_sz := Lib.hid (show (Try.prog.info? 57).map (·.size) = some us.length by rw [size_a8, hul])
      have HX := Lib.hid (And.intro hsp (And.intro l3 (And.intro l4 hbl)))
      clear b8 t8 t02 v4 v3 r4 b15 ta l4 l3 hsp hbl hus h1s hul
      go_upto_block 10 with (first
        | (refine wpList_load_blk rfl 57 (.tmp 4) rfl p4 (by kernel_rfl) us _ _ HB.out.2.1 Try.underlying57 rfl Q_sz.out ?_)
        | (refine wpList_alloc_arr rfl 57 rfl zz.toArray hz8 ?_)
        | (refine wpList_store_blk rfl 57 (.tmp 15) (.tmp 141) rfl w2.heap.size (by kernel_rfl) us zz 57 (by kernel_rfl) HB.out.2.2.2.2.2.1 Q_l.out Q_sz.out Q_1.out (fun y1 hb1 ht1 hs1 => ?_); have HQ' := Lib.hid (And.intro hb1 ht1); clear hb1 ht1 hs1)
        | fail)
      try simp only [Act.put, List.setIfInBounds_toArray, List.set_cons_succ, List.set_cons_zero]
      obtain ⟨p15, hp15⟩ : ∃ q, q = w2.heap.size := ⟨_, rfl⟩
      rw [← hp15] at HQ' HX ⊢
      have ty : Turns [] w2 y1 := HB.out.2.2.2.2.2.2.trans HQ'.out.2 (by intro x hx; simp at hx; exact .inr (by omega))
      have z8 := HB.out.1.turns ty (by simp)
      have z4 := HB.out.2.1.turns ty (by simp)
      have z3 := HB.out.2.2.1.turns ty (by simp)
      have z15 := HQ'.out.1
      rw [HUS.out] at z4 z15
      have n3 : p3 ≠ p15 := by have := HX.out.2.1; omega
      have n4 : p4 ≠ p15 := by have := HX.out.2.2.1; omega
      have n8 : p8 ≠ p15 := by have := HX.out.2.2.2; omega
      have hw15 : w.heap.size ≤ p15 := by
        have h1 := HB.out.2.2.2.1.size
        have h2 := HH1.out.1
        omega
      have HC := Lib.hid (And.intro z8 (And.intro z4 (And.intro z3 (And.intro z15 ty))))
      have HNE := Lib.hid (And.intro n3 (And.intro n4 (And.intro n8 hw15)))
      clear ty z8 z4 z3 z15 n3 n4 n8 hp15 hw15
      refine ref_L10 p3 p8 p15 (spread (d.drop p)) (stP d k) y1 HS.out.1 HX.out.1 HNE.out.1 HNE.out.2.2.1 HC.out.2.2.1 HC.out.1 HC.out.2.2.2.1 (fun _ _ _ _ _ h => HPP.out _ _ _ _ _ h) ?_
      intro y16 y17 y18 y19 y142 y143 y144 y145 y146 y147 y148 y149 y150 y151 y152 y153 y154 y155 y156 y157 y158 y159 y160 y161 y162 y163 y164 y165 y166 y167 y168 y169 y170 y171 y172 y173 y174 y175 y176 y177 y178 y179 y180 y181 y182 y183 y184 y185 y186 y187 y188 y189 y190 y191 y192 y193 y194 y195 y196 y197 y198 y199 y200 y201 y202 y203 y204 y205 y206 y207 y208 y209 y210 y211 y212 y213 y214 y215 y216 y217 y218 y219 y220 y221 y222 y223 y224 y225 y226 w3 ⟨b15, t15⟩
      have HD := Lib.hid (And.intro b15 t15)
      have z4 := HC.out.2.1.turns t15 (by simpa using HNE.out.2.1)
      have z8 := HC.out.1.turns t15 (by simpa using HNE.out.2.2.1)
      have HE := Lib.hid (And.intro z4 z8)
      clear b15 t15 z4 z8
      go_upto_block 12 with fail
      refine ref_L12 p4 p15 (stP d k) (rounds (spread (d.drop p)) 64 (stP d k)) w3 HS.out.1 (rounds_len _ _ HS.out.1 _) HNE.out.2.1 HE.out.1 HD.out.1 (fun _ _ _ _ _ h => HPP.out _ _ _ _ _ h) ?_
      intro y20 y227 y228 y229 y230 y231 y232 y233 y234 y235 y236 y237 y238 w4 ⟨b4, t4⟩
      rw [← HS.out.2] at b4
      have z8 := HE.out.2.turns t4 (by simpa using fun h => HL.out.2.2.2.2.2.2 h.symm)
      have tt : Turns [p4, p8] w w4 := ((((HV.out.2.2.trans HB.out.2.2.2.1 (by simp)).trans HC.out.2.2.2.2 (by simp)).trans HD.out.2 (by intro x hx; simp at hx; subst hx; exact .inr HNE.out.2.2.2)).trans t4 (by simp))
      have HF := Lib.hid (And.intro b4 (And.intro z8 tt))
      clear b4 t4 z8 tt
      go_wp2_with fail
      have hp64 := HP64.out
      have hpk := HPK.out
      go_roundw
      case rel => exact ⟨k + 1, p + 64, spread (d.drop p), by omega, by omega, HX.out.1, by go_num, HF.out⟩
      case measure => (simp [intOf] <;> omega)
    · have hpe : p = n := by omega
      have hk : k = n / 64 := by omega
      rw [hk] at v4
      have HV := Lib.hid (And.intro v4 td)
      have hpi : ¬ (p : Int) < (n : Int) := by omega
      clear v4 v8 td b3 hl hpk hpn hts hlt hln hpl hpe hk
      go_wp2_with fail
      exact HQ.out _ _ _ _ _ _ _ _ _ _ _ _ _ _ _ _ _ _ _ _ _ _ _ _ _ _ _ _ _ _ _ _ _ _ _ _ _ _ _ _ _ _ _ _ _ _ _ _ _ _ _ _ _ _ _ _ _ _ _ _ _ _ _ _ _ _ _ _ _ _ _ _ _ _ _ _ _ _ _ _ _ _ _ _ _ _ _ _ _ _ _ _ _ _ _ _ _ _ _ _ _ _ _ _ _ _ _ _ _ _ _ _ _ _ _ _ _ _ _ _ _ _ _ _ _ _ _ _ _ _ _ _ _ _ _ _ _ _ _ _ _ _ _ _ _ _ _ _ _ _ _ _ _ _ _ _ _ _ _ _ _ _ _ _ _ _ _ _ _ _ _ _ _ _ _ _ _ _ _ _ _ _ _ _ _ _ _ _ _ _ _ _ _ _ _ _ _ HV.out
end Go.Proofs.Ytibolcekhdapaaa
