/- The document's sums of blocks, and its entries, walked. -/
import Derived.Test.YtoahnhphfabajaaGreatLdG
namespace Go.Proofs.YtoahnhphfabajaaGreat
open Go.RowKit
set_option linter.unusedVariables false
set_option maxRecDepth 10000
set_option linter.unusedSimpArgs false
set_option linter.unnecessarySimpa false

theorem Blk.all {w : World} {g : Nat} {cs : List Value} {t : TypeId} (h : Blk w g cs t) : w.rangeAt g 0 cs := fun j v hv => by rw [Nat.zero_add]; exact (h.cell j).trans hv
theorem size_rblo (cs : List Value) (h : cs.length = 66) : (Tryz.prog.info? 75).map (·.size) = some cs.length := by rw [h]; kernel_rfl
theorem size_blo (cs : List Value) (h : cs.length = 66) : (Tryz.prog.info? 70).map (·.size) = some cs.length := by rw [h]; kernel_rfl
set_option maxRecDepth 100000 in
set_option maxHeartbeats 4000000 in
theorem BlockText_any (b : Blo) (hb : b.ok) (w0 : World) :
    Calls Tryz.prog 69 #[.agg b.cells.toArray] w0 fun e w' => ∃ A c', e = .returned (.slice A (bloText b).length c') ∧ Mine w0 w' (.slice A (bloText b).length c') (bloText b) := by
  obtain ⟨cs, hcs⟩ : ∃ c, c = b.cells := ⟨_, rfl⟩
  rw [← hcs]
  have HCS := Lib.hid hcs
  clear hcs
  obtain ⟨w, hw⟩ : ∃ x, x = w0.alloc (.cells cs.toArray 75) := ⟨_, rfl⟩
  obtain ⟨p, hp⟩ : ∃ p, p = w0.heap.size := ⟨_, rfl⟩
  have bc := Blk.new w0 cs 75
  have t0 := (Turns.refl [] w0).alloc (.cells cs.toArray 75)
  have hs0 : w.heap.size = w0.heap.size + 1 := by rw [hw]; simp
  have HS0 := Lib.hid (show w0.heap.size ≤ w.heap.size by omega)
  rw [← hw, ← hp] at bc
  rw [← hw] at t0
  have HW0 := Lib.hid hw
  have HP := Lib.hid hp
  obtain ⟨Y, hY⟩ : ∃ q, q = w.drew := ⟨_, rfl⟩
  have tY : Turns [] w Y := by rw [hY]; exact (Turns.refl _ _).drew
  have bY := bc.turns tY (by simp)
  have C0 := (bY.cell 0).trans (show cs[0]? = some (.int .i64 b.n) from HCS.out ▸ b.get0)
  have HSS := Lib.hid (And.intro (blo_prev hb (by rw [← HCS.out]; exact bY)) (blo_root hb (by rw [← HCS.out]; exact bY)))
  have HT0 := Lib.hid (t0.trans tY (by simp))
  have HYY := Lib.hid hY
  have HB := Lib.hid (And.intro hb bY)
  obtain ⟨l9, hl9⟩ : ∃ x, x = [] ++ le8 b.n ++ b.prev := ⟨_, rfl⟩
  obtain ⟨l13, hl13⟩ : ∃ x, x = l9 ++ b.root := ⟨_, rfl⟩
  have HL9 := Lib.hid hl9
  have HL13 := Lib.hid hl13
  have HTX := Lib.hid (show l13 ++ le8 b.cnt = bloText b by rw [hl13, hl9]; simp [bloText])
  have HN9 := Lib.hid (show l9.length = 40 by rw [hl9]; simp [le8_length, hb.prev])
  have HN13 := Lib.hid (show l13.length = 72 by rw [hl13, hl9]; simp [le8_length, hb.prev, hb.root])
  have S0 : Turns [] Y Y := Turns.refl _ _
  clear bc t0 hw hp hs0 hY tY bY hl9 hl13 hb
  go_enter Tryz.func69, Tryz.ntmps69
  go_upto_region 1 with fail
  rw [← HW0.out, ← HP.out]
  refine rk0 (fun W => Turns [] Y W) (fun _ => True) 7 7 ?_
  rw [← HYY.out]
  refine rkA 0 4 1 (v := ?_) ?_ (.mk' S0 trivial) ?_
  rotate_left
  · intro W hS; go_simp; all_goals with_reducible rfl
  try simp only [sI, sS, sZ]
  refine rkA 1 5 3 (v := ?_) ?_ (.mk' S0 trivial) ?_
  rotate_left
  · intro W hS; have c0 := cellL hS C0 (by simp); go_simp; all_goals with_reducible rfl
  try simp only [sI, sS, sZ]
  refine rkA 3 7 11 (v := ?_) ?_ (.mk' S0 trivial) ?_
  rotate_left
  · intro W hS; go_simp; all_goals with_reducible rfl
  try simp only [sI, sS, sZ]
  refine rkA 4 8 27 (v := ?_) ?_ (.mk' S0 trivial) ?_
  rotate_left
  · intro W hS; go_simp; all_goals with_reducible rfl
  try simp only [sI, sS, sZ]
  refine rk1 2 31 (fun K hK => ?_)
  go_simp
  refine (RInt b.n (Mine.nil (Turns.refl [] Y)) (by simp)).mono ?_
  rintro e X6 ⟨v6, rfl, m6⟩
  obtain ⟨v9, X9, hr9, m9⟩ := mine_append m6 (m6.turns.slice HSS.out.1 (Nat.le_refl _) (by simp)) (by rw [HB.out.1.prev]; simp [le8_length]) 129
  rw [← HL9.out] at m9
  obtain ⟨A9, c9, rfl, _⟩ := m9.len
  refine hK _ _ (.mk' m6.turns trivial) ?_
  clear hK K
  try simp only [sI, sS, sZ]
  refine rk1 5 63 (fun K hK => ?_)
  refine wp_append_run (P := Tryz.prog) (w := X6) (.tmp 6) (.tmp 8) (by rfl) (vs := _) (vx := _) (by rfl) (by rfl) (R := fun v w' => Value.slice A9 _ c9 = v ∧ X9 = w') ⟨_, _, hr9, rfl, rfl⟩ ?_
  rintro _ _ ⟨rfl, rfl⟩
  refine hK _ _ (.mk' m9.turns trivial) ?_
  clear hK K
  try simp only [sI, sS, sZ]
  refine rkA 6 3 127 (v := ?_) ?_ (.mk' m9.turns trivial) ?_
  rotate_left
  · intro W hS; go_simp; all_goals with_reducible rfl
  try simp only [sI, sS, sZ]
  refine rkZ ?_
  clear m6 hr9 C0 S0
  go_upto_region 2 with fail
  obtain ⟨Z, hZ⟩ : ∃ q, q = X9.drew := ⟨_, rfl⟩
  have tZ : Turns [] X9 Z := by rw [hZ]; exact (Turns.refl _ _).drew
  have tYZ := m9.turns.trans tZ (by simp)
  have bZ := HB.out.2.turns tYZ (by simp)
  have C65 := (bZ.cell 65).trans (show cs[65]? = some (.int .i64 b.cnt) from HCS.out ▸ Blo.get65 HB.out.1)
  have HSZ := Lib.hid (tYZ.slice HSS.out.2 (Nat.le_refl _) (by simp))
  have HSB := Lib.hid tYZ.size
  have mZ := m9.on tZ
  have HZZ := Lib.hid hZ
  have S0 : Turns [] Y Z := tYZ
  clear hZ tZ tYZ bZ m9
  refine rk0 (fun W => Turns [] Y W) (fun W => Turns [] Z W) 3 8 ?_
  rw [← HZZ.out]
  obtain ⟨v13, X13, hr13, m13⟩ := mine_append mZ HSZ.out (by rw [HB.out.1.root, HN9.out]; omega) 129
  rw [← HL13.out] at m13
  obtain ⟨A13, c13, rfl, _⟩ := m13.len
  have C65 := (HB.out.2.cell 65).trans (show cs[65]? = some (.int .i64 b.cnt) from HCS.out ▸ Blo.get65 HB.out.1)
  refine rkA 0 10 1 (v := ?_) ?_ (.mk' S0 (Turns.refl _ _)) ?_
  rotate_left
  · intro W hS; go_simp; all_goals with_reducible rfl
  try simp only [sI, sS, sZ]
  refine rkA 1 11 3 (v := ?_) ?_ (.mk' S0 (Turns.refl _ _)) ?_
  rotate_left
  · intro W hS; go_simp; all_goals with_reducible rfl
  try simp only [sI, sS, sZ]
  refine rkA 2 12 7 (v := ?_) ?_ (.mk' S0 (Turns.refl _ _)) ?_
  rotate_left
  · intro W hS; go_simp; all_goals with_reducible rfl
  try simp only [sI, sS, sZ]
  refine rkA 4 14 23 (v := ?_) ?_ (.mk' S0 (Turns.refl _ _)) ?_
  rotate_left
  · intro W hS; go_simp; all_goals with_reducible rfl
  try simp only [sI, sS, sZ]
  refine rkA 5 15 55 (v := ?_) ?_ (.mk' S0 (Turns.refl _ _)) ?_
  rotate_left
  · intro W hS; have c0 := cellL hS C65 (by simp); go_simp; all_goals with_reducible rfl
  try simp only [sI, sS, sZ]
  refine rk1 3 63 (fun K hK => ?_)
  refine wp_append_run (P := Tryz.prog) (w := Z) (.tmp 10) (.tmp 12) (by rfl) (vs := _) (vx := _) (by rfl) (by rfl) (R := fun v w' => Value.slice A13 _ c13 = v ∧ X13 = w') ⟨_, _, hr13, rfl, rfl⟩ ?_
  rintro _ _ ⟨rfl, rfl⟩
  refine hK _ _ (.p m13.turns) ?_
  clear hK K
  try simp only [sI, sS, sZ]
  refine rk1 6 127 (fun K hK => ?_)
  go_simp
  refine (RInt b.cnt m13 (by rw [HN13.out]; omega)).mono ?_
  rintro e X16 ⟨v16, rfl, m16⟩
  rw [HTX.out] at m16
  obtain ⟨A16, c16, rfl, _⟩ := m16.len
  refine hK _ _ (.p m16.turns) ?_
  clear hK K
  try simp only [sI, sS, sZ]
  refine rkA 7 2 255 (v := ?_) ?_ (.p m16.turns) ?_
  rotate_left
  · intro W hS; go_simp; all_goals with_reducible rfl
  try simp only [sI, sS, sZ]
  refine rkZ ?_
  have HF := Lib.hid (mine_base m16 HT0.out)
  clear m16 m13 hr13 C65 S0
  go_wp2_with fail
  go_ret
  exact ⟨_, _, rfl, HF.out⟩

set_option maxRecDepth 100000 in
set_option maxHeartbeats 4000000 in
theorem RHash_any (b : Blo) (hb : b.ok) (w0 : World) :
    Calls Tryz.prog 36 #[.agg b.cells.toArray] w0 fun e w' => e = .returned (.agg (bvs (bloH b)).toArray) ∧ Turns [] w0 w' := by
  obtain ⟨cs, hcs⟩ : ∃ c, c = b.cells := ⟨_, rfl⟩
  rw [← hcs]
  have HCS := Lib.hid hcs
  clear hcs
  obtain ⟨w, hw⟩ : ∃ x, x = w0.alloc (.cells cs.toArray 75) := ⟨_, rfl⟩
  obtain ⟨p, hp⟩ : ∃ p, p = w0.heap.size := ⟨_, rfl⟩
  have bc := Blk.new w0 cs 75
  have t0 := (Turns.refl [] w0).alloc (.cells cs.toArray 75)
  have hs0 : w.heap.size = w0.heap.size + 1 := by rw [hw]; simp
  have HS0 := Lib.hid (show w0.heap.size ≤ w.heap.size by omega)
  rw [← hw, ← hp] at bc
  rw [← hw] at t0
  have HW0 := Lib.hid hw
  have HP := Lib.hid hp
  obtain ⟨res, hres⟩ : ∃ r, r = bvs (bloH b) := ⟨_, rfl⟩
  rw [← hres]
  have HRES := Lib.hid hres
  have hz32 := zero_hash
  have hzl := zeros32_len
  have b2 := Blk.new w (bvs (zeros 32)) 53
  have t1 := (Turns.refl [] w).alloc (.cells (bvs (zeros 32)).toArray 53)
  generalize hzz : bvs (zeros 32) = zz at hz32 hzl b2 t1
  obtain ⟨w1, hw1⟩ : ∃ x, x = w.alloc (.cells zz.toArray 53) := ⟨_, rfl⟩
  rw [← hw1] at b2 t1
  have hs1 : w1.heap.size = w.heap.size + 1 := by rw [hw1]; simp
  have HS1 := Lib.hid hs1
  have HW1 := Lib.hid hw1
  have HZL := Lib.hid hzl
  have H0 := Lib.hid (And.intro b2 t1)
  clear hres hzz hw1 hzl b2 t1 hs1
  have HLEN := Lib.hid (show (bloH b).length = 32 from bloH_len b)
  have t01 := t0.trans H0.out.2 (by simp)
  have r5 := (bc.turns H0.out.2 (by simp)).all
  have hz1 := size_rblo cs (by rw [HCS.out]; exact Blo.cells_len hb)
  have BT := BlockText_any b hb w1
  rw [← HCS.out] at BT
  have BX := Lib.hid BT
  have HT0 := Lib.hid t01
  have HTL := Lib.hid (bloText_len hb)
  clear bc t0 t01 hw hp hs0 hb BT
  go_enter Tryz.func36, Tryz.ntmps36
  go_upto_region 1 with (first | (refine wpList_alloc_arr (o := ⟨some 2, _, _, _, _, _⟩) rfl 53 rfl zz.toArray hz32 ?_) | fail)
  try simp only [Act.put, List.setIfInBounds_toArray, List.set_cons_succ, List.set_cons_zero]
  rw [← HW0.out, ← HW1.out, ← HP.out]
  go_wp2_with (first
    | (refine wpList_load_mid rfl 75 (.tmp 1) rfl p 0 rfl _ _ r5 Tryz.underlying75 rfl hz1 ?_)
    | fail)
  refine BX.out.mono ?_
  rintro e w2 ⟨A2, c2, rfl, m2⟩
  have SU := Lib.hid (refSum_any A2 _ c2 w2.heap.size (bloText b) w2 m2.sl (Nat.le_refl _) (by rw [HTL.out]; omega))
  have H2 := Lib.hid m2.turns
  clear m2 BX r5
  go_wp2_with fail
  refine SU.out.mono ?_
  rintro e w3 ⟨rfl, t3⟩
  rw [show bvs (sha (bloText b)) = res from HRES.out.symm]
  have H3 := Lib.hid (H2.out.trans t3 (by simp))
  clear t3 SU
  have hrl : res.length = 32 := by rw [HRES.out, bvs_length]; exact HLEN.out
  have hr1 : ∀ u ∈ res, u.oneCell' = true := by rw [HRES.out]; exact bvs_one _
  have Q_b2 := Lib.hid (H0.out.1.turns H3.out (by simp))
  have Q_l := Lib.hid (show zz.length = res.length by rw [HZL.out, hrl])
  have Q_sz := Lib.hid (show (Tryz.prog.info? 53).map (·.size) = some res.length by rw [size_hash, hrl])
  have Q_1 := Lib.hid hr1
  clear hrl hr1
  go_wp2_with (first
    | (refine wpList_store_blk rfl 53 (.tmp 2) (.tmp 5) rfl w.heap.size (by kernel_rfl) res zz 53 (by kernel_rfl) Q_b2.out Q_l.out Q_sz.out Q_1.out (fun w9 hb9 ht9 hs9 => ?_); have HQ9 := Lib.hid (And.intro hb9 ht9); clear hb9 ht9 hs9)
    | fail)
  refine bodyPost_ret (results_cell_row rfl _ _ w.heap.size _ _ _ _ (by kernel_rfl) HQ9.out.1 Tryz.underlying53 rfl (by rw [List.size_toArray]; exact Q_sz.out)) rfl ?_
  exact ⟨rfl, (HT0.out.trans H3.out (by simp)).trans HQ9.out.2 (by intro x hx; simp at hx; exact .inr (by have := HS0.out; omega))⟩

set_option maxRecDepth 100000 in
set_option maxHeartbeats 4000000 in
theorem Entries_any (l : List Txn) (hl : l.length ≤ 1000) (ha : ∀ t ∈ l, t.ok) (v : Value) (S : Nat → Prop) (w0 : World) (hd : Deep TxR w0 S 2 v l) :
    Calls Tryz.prog 35 #[v] w0 fun e w' => ∃ A' c', e = .returned (.slice A' l.length c') ∧ HMine w0 w' (.slice A' l.length c') (l.map entry) := by
  obtain ⟨A, cp, rfl, hcp, _⟩ := hd.form
  have HD := Lib.hid hd
  have HA := Lib.hid ha
  obtain ⟨n, hn⟩ : ∃ n, n = l.length := ⟨_, rfl⟩
  have hn1 : n ≤ 1000 := by omega
  rw [← hn]
  have HN := Lib.hid hn
  have hm0 : HMine w0 w0 (.slice none 0 0) ((l.map entry).take 0) := by simpa using HMine.nil (Turns.refl [] w0)
  have HM0 := Lib.hid hm0
  clear hd ha hl hn hm0 hcp
  go_enter Tryz.func35, Tryz.ntmps35
  go_wp2_with fail
  go_loopw [3, 4] (fun u i wr => ∃ (k : Nat) (A' : Option Addr) (c' : Nat), k ≤ n ∧ i = .int .i64 k ∧ u = .slice A' k c' ∧ HMine w0 wr (.slice A' k c') ((l.map entry).take k)) (fun _ i _ => n - (intOf i).toNat)
  case atStart => exact ⟨0, none, 0, by omega, rfl, rfl, HM0.out⟩
  case round =>
    obtain ⟨k, Au, cu, hk, rfl, rfl, m0⟩ := hrel
    have t0 := m0.turns
    by_cases hlt : k < n
    · have hki : (k : Int) < (n : Int) := by omega
      have hkl : k < l.length := by have := HN.out; omega
      obtain ⟨b, off, cc, cs, hv, hS, hb, hcl, rg0, hR0⟩ := HD.out.at_ (by omega) k hkl
      injection hv with e1 e2 e3
      subst e1 e3
      clear e2
      have rg := rangeV t0 rg0
      have hR := hR0.on t0
      clear rg0 hR0
      have hck := HA.out _ (List.getElem_mem hkl)
      have hst : (l.map entry).take (k + 1) = (l.map entry).take k ++ [entry l[k]] := by rw [List.take_succ_eq_append_getElem (by simpa using hkl)]; simp
      obtain ⟨c, hc⟩ : ∃ c, c = l[k] := ⟨_, rfl⟩
      rw [← hc] at hR hck hst
      obtain ⟨rv, rfl, hsl⟩ := hR
      obtain ⟨Ar, cr, rfl, _⟩ := hsl.form
      have hz1 := size_tx c.id (.slice Ar c.chs.length cr)
      have RE := Lib.hid (REntry_any c hck (.slice Ar c.chs.length cr) S wr hsl)
      have HMX := Lib.hid m0
      have HST := Lib.hid hst
      clear m0 t0 hck hst hc hsl hcl hb hkl
      go_wp2_with (first
        | (refine wpList_load_mid rfl 45 (.tmp 14) rfl b (off + k * 2) rfl _ _ rg Tryz.underlying45 rfl hz1 ?_)
        | fail)
      refine RE.out.mono ?_
      rintro e x2 ⟨rfl, t2⟩
      have m2 := HMX.out.on t2
      have hkk : ((l.map entry).take k).length = k := by rw [List.length_take, List.length_map, ← HN.out]; omega
      obtain ⟨v9, w9, hr9, m9⟩ := hmine_push m2 (by rw [hkk]; omega) (entry c) (entry_len _) 68
      rw [← HST.out] at m9
      obtain ⟨A9, c9, rfl, _⟩ := m9.len
      have hk1 : ((l.map entry).take (k + 1)).length = k + 1 := by rw [List.length_take, List.length_map, ← HN.out]; omega
      rw [hk1] at m9 hr9
      have HM9 := Lib.hid m9
      have hl32 := entry_len c
      generalize entry c = h32 at hr9 hl32 ⊢
      clear m2 t2 m9 rg hkk hk1
      go_wp2_with (first
        | (refine wpList_build_hash1 rfl h32 hl32 (.tmp 16) rfl rfl ?_)
        | (at_builtin; refine wpList_append_at rfl (.tmp 11) (.tmp 17) rfl hr9 rfl rfl ?_)
        | fail)
      go_roundw
      case rel => exact ⟨k + 1, A9, c9, by omega, by go_num, rfl, HM9.out⟩
      case measure => (simp [intOf] <;> omega)
    · obtain rfl : k = n := by omega
      rw [List.take_of_length_le (by rw [List.length_map, ← HN.out]; omega)] at m0
      have HF := Lib.hid m0
      clear m0 t0
      go_wp2_with fail
      go_ret
      exact ⟨_, _, rfl, HF.out⟩
end Go.Proofs.YtoahnhphfabajaaGreat
