/- The reference's sum is SHA-256. -/
import Derived.Test.YtibolcekhdapaaaRefK
import Derived.Test.YtibolcekhdapaaaRefL
namespace Go.Proofs.Ytibolcekhdapaaa
open Go.RowKit
set_option linter.unusedVariables false
set_option maxRecDepth 10000
set_option linter.unusedSimpArgs false
set_option linter.unnecessarySimpa false

set_option maxRecDepth 1000000 in
set_option maxHeartbeats 4000000 in
theorem refSum_any (A : Option Addr) (n c B : Nat) (b : List UInt8) (w : World) (h : Sl w B 1 (.slice A n c) n (bvs b)) (hB : B ≤ w.heap.size) (hm : b.length ≤ 1000000000) :
    Calls Try.prog 11 #[.slice A n c] w fun e w' => e = .returned (.agg (bvs (sha b)).toArray) ∧ Turns [] w w' := by
  have hbn := h.1
  rw [bvs_length, Nat.mul_one] at hbn
  subst hbn
  obtain ⟨res, hres⟩ : ∃ r, r = bvs (sha b) := ⟨_, rfl⟩
  rw [← hres]
  have HRES := Lib.hid hres
  have hz32 := zero_hash
  have hzl32 := zeros32_len
  have hz64 := zero_w64
  have hzl64 := zerosW_len 64
  have hz8 := zero_a8
  have hzl8 := zerosW_len 8
  have b2 := Blk.new w (bvs (zeros 32)) 24
  have t1 := (Turns.refl [] w).alloc (.cells (bvs (zeros 32)).toArray 24)
  generalize hzz : bvs (zeros 32) = zz at hz32 hzl32 b2 t1
  generalize hzz64 : u32s (zerosW 64) = z64 at hz64 hzl64
  generalize hzz8 : u32s (zerosW 8) = z8 at hz8 hzl8
  obtain ⟨w1, hw1⟩ : ∃ x, x = w.alloc (.cells zz.toArray 24) := ⟨_, rfl⟩
  rw [← hw1] at b2 t1
  have HW1 := Lib.hid hw1
  have HZ := Lib.hid (And.intro hzz (And.intro hzz64 hzz8))
  have HZL := Lib.hid (And.intro hzl32 (And.intro hzl64 hzl8))
  have H0 := Lib.hid (And.intro h (And.intro hB (And.intro b2 t1)))
  have HM := Lib.hid hm
  have WA := Lib.hid (words_any w1)
  have hp2 := b2.lt
  have HP2 := Lib.hid hp2
  clear hres hzz hzz64 hzz8 hw1 h hB b2 t1 hzl32 hzl64 hzl8 hm hp2
  go_enter Try.func11, Try.ntmps11
  go_wp2_with (first
    | (refine wpList_alloc_arr (o := ⟨some 2, _, _, _, _, _⟩) rfl 24 rfl zz.toArray hz32 ?_)
    | fail)
  rw [← HW1.out]
  refine WA.out.mono ?_
  rintro e x1 ⟨rfl, t1⟩
  have hk1 := u32s_one shaK
  have hkl := shaK_len
  generalize hks : u32s shaK = ks at hk1 hkl
  have HKS := Lib.hid hks
  have b3 := Blk.new x1 z64 55
  have ta : Turns [] x1 (x1.alloc (.cells z64.toArray 55)) := (Turns.refl _ _).alloc _
  have HA := Lib.hid (And.intro b3 (And.intro t1 ta))
  have Q_l := Lib.hid (show z64.length = ks.length by rw [HZL.out.2.1, hkl])
  have Q_sz := Lib.hid (show (Try.prog.info? 55).map (·.size) = some ks.length by rw [size_w64, hkl])
  have Q_1 := Lib.hid hk1
  clear b3 t1 ta WA hk1 hkl hks
  go_upto_region 2 with (first
    | (refine wpList_alloc_arr (o := ⟨some 3, _, _, _, _, _⟩) rfl 55 rfl z64.toArray hz64 ?_)
    | (refine wpList_store_blk rfl 55 (.tmp 3) (.tmp 23) rfl x1.heap.size (by kernel_rfl) ks z64 55 (by kernel_rfl) HA.out.1 Q_l.out Q_sz.out Q_1.out (fun y1 hb1 ht1 hs1 => ?_); have HQ := Lib.hid (And.intro hb1 ht1); clear hb1 ht1 hs1)
    | fail)
  try simp only [Act.put, List.setIfInBounds_toArray, List.set_cons_succ, List.set_cons_zero]
  obtain ⟨p3, hp3⟩ : ∃ q, q = x1.heap.size := ⟨_, rfl⟩
  rw [← hp3] at HQ ⊢
  have T1 : Turns [] w1 y1 := (HA.out.2.1.trans HA.out.2.2 (by simp)).trans HQ.out.2 (by intro x hx; simp at hx; have := HA.out.2.1.size; exact .inr (by omega))
  have b3 := HQ.out.1
  have h31 : w1.heap.size ≤ p3 := by have := HA.out.2.1.size; omega
  have H1 := Lib.hid (And.intro T1 (And.intro b3 h31))
  -- the sum on its way
  have hk1 := u32s_one shaH
  have hkl := shaH_len
  have hlit : (u32s shaH).toArray = #[.int .u32 1779033703, .int .u32 3144134277, .int .u32 1013904242, .int .u32 2773480762, .int .u32 1359893119, .int .u32 2600822924, .int .u32 528734635, .int .u32 1541459225] := rfl
  generalize hks : u32s shaH = hs at hk1 hkl hlit
  have HHS := Lib.hid hks
  have HLIT := Lib.hid hlit
  have b4 := Blk.new y1 z8 57
  have ta : Turns [] y1 (y1.alloc (.cells z8.toArray 57)) := (Turns.refl _ _).alloc _
  have HB := Lib.hid (And.intro b4 ta)
  have P_l := Lib.hid (show z8.length = hs.length by rw [HZL.out.2.2, hkl])
  have P_sz := Lib.hid (show (Try.prog.info? 57).map (·.size) = some hs.length by rw [size_a8, hkl])
  have P_1 := Lib.hid hk1
  clear T1 b3 h31 hk1 hkl hlit hks b4 ta HQ HA Q_l Q_sz Q_1 hp3
  go_upto_region 3 with (first
    | (refine wpList_alloc_arr (o := ⟨some 4, _, _, _, _, _⟩) rfl 57 rfl z8.toArray hz8 ?_)
    | (refine wpList_store_blk rfl 57 (.tmp 4) (.tmp 24) rfl y1.heap.size (by kernel_rfl) hs z8 57 (by rw [HLIT.out]; kernel_rfl) HB.out.1 P_l.out P_sz.out P_1.out (fun y2 hb1 ht1 hs1 => ?_); have HQ := Lib.hid (And.intro hb1 ht1); clear hb1 ht1 hs1)
    | fail)
  try simp only [Act.put, List.setIfInBounds_toArray, List.set_cons_succ, List.set_cons_zero]
  obtain ⟨p4, hp4⟩ : ∃ q, q = y1.heap.size := ⟨_, rfl⟩
  rw [← hp4] at HQ ⊢
  have t2 : Turns [] y1 y2 := HB.out.2.trans HQ.out.2 (by intro x hx; simp at hx; exact .inr (by omega))
  have T2 : Turns [] w1 y2 := H1.out.1.trans t2 (by simp)
  have b3 := H1.out.2.1.turns t2 (by simp)
  have b4 := HQ.out.1
  have h34 : p3 < p4 := by have := H1.out.2.1.lt; omega
  have h4y : p4 < y2.heap.size := b4.lt
  have slb := (H0.out.2.2.2.trans T2 (by simp)).slice H0.out.1 H0.out.2.1 (by simp)
  obtain ⟨v5, w5, hr3, own5, t5⟩ := run_fresh_copy y2 slb (Nat.le_trans H0.out.2.1 (H0.out.2.2.2.trans T2 (by simp)).size) (by have := HM.out; omega) 26
  have m5 : Mine y2 w5 v5 b := ⟨own5, t5⟩
  obtain ⟨A5, c5, rfl, _⟩ := m5.len
  obtain ⟨v6, w6, hr4, m6⟩ := mine_push' m5 (by have := HM.out; omega) 128 (.int .u8 128) rfl 26
  obtain ⟨A6, c6, rfl, _⟩ := m6.len
  rw [show (b ++ [(128 : UInt8)]).length = b.length + 1 from by simp] at hr4 m6
  have m6' : Mine y2 w6 (.slice A6 (b.length + 1) c6) (padK b 0) := by simpa [padK] using m6
  have H2 := Lib.hid (And.intro T2 (And.intro b3 (And.intro b4 (And.intro h34 h4y))))
  have M6 := Lib.hid m6'
  clear t2 T2 b3 b4 h34 h4y slb own5 t5 m5 m6 m6' hp4 HQ HB P_l P_sz P_1
  go_upto_block 0 with (first
    | (at_builtin; refine wpList_append_at rfl (.tmp 25) (.tmp 26) rfl hr3 rfl rfl ?_)
    | (at_builtin; refine wpList_append_at rfl (.tmp 28) (.tmp 29) rfl hr4 rfl rfl ?_)
    | fail)
  clear hr3 hr4
  refine ref_L0 y2 A6 c6 b w6 HM.out M6.out (fun _ _ _ o _ h => by cases o <;> exact h) ?_
  intro y31 y32 y33 y34 y35 y36 y37 A7 c7 w7 m7
  have HM7 := Lib.hid m7
  have hb8 : IntKind.u64.wrap (b.length : Int) = (b.length : Int) := by have := HM.out; rw [IntKind.wrap_u64]; omega
  have hb88 : IntKind.u64.wrap ((b.length : Int) * 8) = (b.length : Int) * 8 := by have := HM.out; rw [IntKind.wrap_u64]; omega
  clear m7
  go_upto_block 2 with fail
  refine ref_L2 y2 A7 (b.length + 1 + padZ b.length) c7 b.length (padK b (padZ b.length)) w7 (padK_len _ _) (by have := HM.out; have := padZ_lt b.length; omega) HM.out HM7.out (fun _ _ _ o _ h => by cases o <;> exact h) ?_
  intro y7 y42 y43 y44 y45 y46 y47 y48 y49 y50 y51 y52 y53 y54 A8 c8 w8 m8
  have hpl := padded_len b
  have hst := sha_st b
  have hpn : (padded b).length = b.length + 1 + padZ b.length + 8 := by rw [padded_eq, List.length_append, padK_len, beTo_len]
  have hpz := padZ_lt b.length
  rw [← padded_eq] at m8
  have hmm := HM.out
  obtain ⟨N, hN⟩ : ∃ N, N = b.length + 1 + padZ b.length + 8 := ⟨_, rfl⟩
  rw [← hN] at hpn m8 ⊢
  obtain ⟨d, hd⟩ : ∃ d, d = padded b := ⟨_, rfl⟩
  rw [← hd] at hpl hst hpn m8
  obtain ⟨g, c9, hsv, hc9, _, hgy, hg8, hcell⟩ := own_cells m8.own (by omega)
  injection hsv with e1 e2 e3
  subst e1 e3
  clear e2
  have T8 : Turns [] w1 w8 := H2.out.1.trans m8.turns (by simp)
  have b3 := H2.out.2.1.turns m8.turns (by simp)
  have b4 := H2.out.2.2.1.turns m8.turns (by simp)
  have b8 := Blk.new w8 z64 55
  obtain ⟨w9, hw9⟩ : ∃ x, x = w8.alloc (.cells z64.toArray 55) := ⟨_, rfl⟩
  have t9 : Turns [] w8 w9 := by rw [hw9]; exact (Turns.refl _ _).alloc _
  rw [← hw9] at b8
  have hNd : d.length = N := hpn
  have hby : ∀ j, j < N → w9.cell? ⟨g, 0 + j, none⟩ = some (.int .u8 ((d.getD j 0).toNat : Int)) := by
    intro j hj
    rw [Nat.zero_add]
    refine cellL t9 (hcell j _ ?_).1 (by simp)
    rw [List.getD_eq_getElem?_getD]
    simp [bvs, u8v, List.getElem?_eq_getElem (show j < d.length by omega)]
  have HX := Lib.hid hw9
  have HC := Lib.hid (And.intro hby (And.intro (b3.turns t9 (by simp)) (And.intro (b4.turns t9 (by simp)) b8)))
  have l3 := b3.lt
  have l4 := b4.lt
  obtain ⟨p8, hp8⟩ : ∃ q, q = w8.heap.size := ⟨_, rfl⟩
  rw [← hp8] at HC
  have HN := Lib.hid (show (N ≤ 2000000000 ∧ N % 64 = 0) ∧ (g ≠ p4 ∧ g ≠ p8 ∧ p3 ≠ p4 ∧ p3 ≠ p8 ∧ p4 ≠ p8 ∧ g < w9.heap.size) by
    have h4 := H2.out.2.2.2.2
    have h3 := H2.out.2.2.2.1
    have h9 := t9.size
    have hNm : N % 64 = 0 := by rw [← hNd]; exact hpl
    exact ⟨⟨by omega, hNm⟩, by omega, by omega, by omega, by omega, by omega, by omega⟩)
  have HST := Lib.hid (And.intro hNd hst)
  have HP8 := Lib.hid hp8
  have HT8 := Lib.hid (T8.trans t9 (by simp))
  have HM8 := Lib.hid m8.turns.size
  clear hN hd hcell hby b3 b4 b8 t9 T8 m8 hpl hst hNd hpn hw9 hp8 l3 l4 hgy hg8 hc9 hpz hmm hb8 hb88
  go_upto_block 4 with (first
    | (refine wpList_alloc_arr (o := ⟨some 8, _, _, _, _, _⟩) rfl 55 rfl z64.toArray hz64 ?_)
    | fail)
  try simp only [Act.put, List.setIfInBounds_toArray, List.set_cons_succ, List.set_cons_zero]
  rw [← HX.out, ← HP8.out]
  refine ref_L4 p3 p4 p8 N c8 g 0 d (zerosW 64) w9 HN.out.1.1 HST.out.1 HN.out.1.2 (by simp [zerosW]) HN.out.2.1 HN.out.2.2.1 HN.out.2.2.2.1 HN.out.2.2.2.2.1 HN.out.2.2.2.2.2.1 HN.out.2.2.2.2.2.2 (by rw [HKS.out]; exact HC.out.2.1) (by rw [show stP d 0 = shaH from rfl, HHS.out]; exact HC.out.2.2.1) (by rw [HZ.out.2.1]; exact HC.out.2.2.2) HC.out.1 (fun _ _ _ o _ h => by cases o <;> exact h) ?_
  intro y9 y10 y11 y12 y13 y14 y15 y16 y17 y18 y19 y20 y55 y56 y57 y58 y59 y60 y61 y62 y63 y64 y65 y66 y67 y68 y69 y70 y71 y72 y73 y74 y75 y76 y77 y78 y79 y80 y81 y82 y83 y84 y85 y86 y87 y88 y89 y90 y91 y92 y93 y94 y95 y96 y97 y98 y99 y100 y101 y102 y103 y104 y105 y106 y107 y108 y109 y110 y111 y112 y113 y114 y115 y116 y117 y118 y119 y120 y121 y122 y123 y124 y125 y126 y127 y128 y129 y130 y131 y132 y133 y134 y135 y136 y137 y138 y139 y140 y141 y142 y143 y144 y145 y146 y147 y148 y149 y150 y151 y152 y153 y154 y155 y156 y157 y158 y159 y160 y161 y162 y163 y164 y165 y166 y167 y168 y169 y170 y171 y172 y173 y174 y175 y176 y177 y178 y179 y180 y181 y182 y183 y184 y185 y186 y187 y188 y189 y190 y191 y192 y193 y194 y195 y196 y197 y198 y199 y200 y201 y202 y203 y204 y205 y206 y207 y208 y209 y210 y211 y212 y213 y214 y215 y216 y217 y218 y219 y220 y221 y222 y223 y224 y225 y226 y227 y228 y229 y230 y231 y232 y233 y234 y235 y236 y237 y238 w10 ⟨b4, t10⟩
  have T10 : Turns [] w1 w10 := HT8.out.trans t10 (by
    intro x hx
    have h1 := H1.out.2.2
    have h2 := H2.out.2.2.2
    have h3 := HP8.out
    have h4 := H2.out.1.size
    have h5 := HC.out.2.1.lt
    have h6 : w1.heap.size ≤ p4 := by omega
    have h7 : w1.heap.size ≤ p8 := by
      have hh : y2.heap.size ≤ w8.heap.size := HM8.out
      omega
    simp at hx
    rcases hx with rfl | rfl
    · exact .inr h6
    · exact .inr h7)
  have hk : d.length / 64 = N / 64 := by rw [HST.out.1]
  have hsl := stP_len d (N / 64)
  have hst := HST.out.2
  rw [hk] at hst
  generalize stP d (N / 64) = st at b4 hsl hst
  have b21 := Blk.new w10 zz 24
  have ta : Turns [] w10 (w10.alloc (.cells zz.toArray 24)) := (Turns.refl _ _).alloc _
  obtain ⟨w11, hw11⟩ : ∃ x, x = w10.alloc (.cells zz.toArray 24) := ⟨_, rfl⟩
  have l4 := b4.lt
  rw [← hw11] at b21 ta
  obtain ⟨p21, hp21⟩ : ∃ q, q = w10.heap.size := ⟨_, rfl⟩
  rw [← hp21] at b21
  have n4 : p4 ≠ p21 := by omega
  have hW21 : w1.heap.size ≤ p21 := by have := T10.size; omega
  have HD := Lib.hid (And.intro hsl (And.intro (b4.turns ta (by simp)) (And.intro b21 (And.intro n4 hW21))))
  have HX11 := Lib.hid (And.intro hw11 hp21)
  have HRS := Lib.hid hst
  have HT11 := Lib.hid (T10.trans ta (by simp))
  clear t10 T10 hk hsl hst b21 ta hw11 hp21 n4 hW21 l4 b4
  go_upto_block 14 with (first
    | (refine wpList_alloc_arr (o := ⟨some 21, _, _, _, _, _⟩) rfl 24 rfl zz.toArray hz32 ?_)
    | fail)
  try simp only [Act.put, List.setIfInBounds_toArray, List.set_cons_succ, List.set_cons_zero]
  rw [← HX11.out.1, ← HX11.out.2]
  refine ref_L14 p4 p21 st (zeros 32) w11 HD.out.1 (zeros_length 32) HD.out.2.2.2.1 HD.out.2.1 (by rw [HZ.out.1]; exact HD.out.2.2.1) (fun _ _ _ o _ h => by cases o <;> exact h) ?_
  intro y22 y239 y240 y241 y242 y243 y244 y245 y246 y247 y248 y249 y250 y251 y252 y253 y254 y255 y256 y257 y258 y259 y260 y261 y262 y263 y264 y265 y266 y267 y268 y269 y270 y271 y272 y273 y274 y275 y276 w12 ⟨b21, t12⟩
  rw [← HRS.out, ← HRES.out] at b21
  have T12 : Turns [] w1 w12 := HT11.out.trans t12 (by intro x hx; simp at hx; subst hx; exact .inr HD.out.2.2.2.2)
  have b2 := H0.out.2.2.1.turns T12 (by simp)
  have hrl : res.length = 32 := by rw [HRES.out, bvs_length, sha_len]
  have h1 : ∀ u ∈ res, u.oneCell' = true := by rw [HRES.out]; exact bvs_one _
  have HE := Lib.hid (And.intro b21 (And.intro b2 T12))
  have Q_l := Lib.hid (show zz.length = res.length by rw [HZL.out.1, hrl])
  have Q_sz := Lib.hid (show (Try.prog.info? 24).map (·.size) = some res.length by rw [size_hash, hrl])
  have Q_1 := Lib.hid h1
  clear b21 t12 T12 b2 hrl h1
  go_wp2_with (first
    | (refine wpList_load_blk rfl 24 (.tmp 21) rfl p21 (by kernel_rfl) res _ _ HE.out.1 Try.underlying24 rfl Q_sz.out ?_)
    | (refine wpList_store_blk rfl 24 (.tmp 2) (.tmp 277) rfl w.heap.size (by kernel_rfl) res zz 24 (by kernel_rfl) HE.out.2.1 Q_l.out Q_sz.out Q_1.out (fun w13 hb1 ht1 hs1 => ?_); have HQ := Lib.hid (And.intro hb1 ht1); clear hb1 ht1 hs1)
    | fail)
  refine bodyPost_ret (results_cell_row rfl _ _ w.heap.size _ _ _ _ (by kernel_rfl) HQ.out.1 Try.underlying24 rfl (by rw [List.size_toArray]; exact Q_sz.out)) rfl ?_
  exact ⟨rfl, (H0.out.2.2.2.trans HE.out.2.2 (by simp)).trans HQ.out.2 (by simp)⟩
end Go.Proofs.Ytibolcekhdapaaa
