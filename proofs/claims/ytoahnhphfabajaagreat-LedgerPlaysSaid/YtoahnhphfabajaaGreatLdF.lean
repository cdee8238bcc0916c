/- Roots and entries of transactions, walked: the document's. -/
import Derived.Test.YtoahnhphfabajaaGreatLdE
import Derived.Test.YtoahnhphfabajaaGreatGMV
namespace Go.Proofs.YtoahnhphfabajaaGreat
open Go.RowKit
set_option linter.unusedVariables false
set_option maxRecDepth 10000
set_option linter.unusedSimpArgs false
set_option linter.unnecessarySimpa false

/-- One sum more; only the row's own block turns. -/
theorem hmine_push2 {W0 w : World} {v : Value} {hs : List (List UInt8)} (h : HMine W0 w v hs) (hm : hs.length ≤ 1000000) (x : List UInt8) (hx : x.length = 32) (ty : TypeId) :
    ∃ v' w', (Builtin.append_ #[68, 68] ty #[v, .slice (some ⟨w.heap.size, 0, none⟩) 1 1]).run Tryz.prog (w.alloc (.cells (bvs x).toArray 53)) = .ok v' w' ∧ HMine W0 w' v' (hs ++ [x]) ∧ Turns v.ownBlock.toList w w' := by
  have h1 := h.on ((Turns.refl [] w).alloc (.cells (bvs x).toArray 53))
  have hx1 := Hs.one w x hx 53
  obtain ⟨v1, w1, hr1, ap1⟩ := run_append_rd (P := Tryz.prog) _ T23 ty h1.own hx1.sl (hcells_one _) (by simp only [maxLen, List.length_cons, List.length_nil]; omega) (by simp only [List.length_cons, List.length_nil]; omega) h1.turns.size
  have tg : Turns v.ownBlock.toList (w.alloc (.cells (bvs x).toArray 53)) w1 := Turns.of_grown ap1.grown (by intro k hk; exact .inl (by simpa using hk))
  refine ⟨v1, w1, hr1, ?_, ((Turns.refl _ w).alloc _).trans tg (fun x hx => .inl hx)⟩
  rw [← hcells_append] at ap1
  have hl : (hs ++ [x]).length = hs.length + 1 := by simp
  refine ⟨by rw [hl]; exact ap1.own, ?_, ?_⟩
  · exact h1.turns.trans tg (by intro x hx; exact .inr (h.own.lt x (by simpa using hx)).1)
  · intro y hy
    rcases List.mem_append.1 hy with hy | hy
    · exact h.all y hy
    · simp at hy; subst hy; exact hx
set_option maxRecDepth 100000 in
set_option maxHeartbeats 4000000 in
theorem RRows_any (t : Txn) (ht : t.ok) (cv : Value) (S : Nat → Prop) (w0 : World) (hd : Deep ChgR w0 S 3 cv t.chs) :
    Calls Tryz.prog 52 #[.agg #[.int .i64 t.id, cv]] w0 fun e w' => ∃ A' c', e = .returned (.slice A' t.chs.length c') ∧ HMine w0 w' (.slice A' t.chs.length c') (txRows t) := by
  obtain ⟨A, cp, rfl, hcp, _⟩ := hd.form
  obtain ⟨w1, hw⟩ : ∃ x, x = w0.alloc (.cells #[.int .i64 t.id, .slice A t.chs.length cp] 45) := ⟨_, rfl⟩
  obtain ⟨p, hp⟩ : ∃ p, p = w0.heap.size := ⟨_, rfl⟩
  have bc := Blk.new w0 [.int .i64 t.id, .slice A t.chs.length cp] 45
  have t0 := (Turns.refl [] w0).alloc (.cells #[.int .i64 t.id, .slice A t.chs.length cp] 45)
  rw [show w0.alloc (.cells [.int .i64 t.id, .slice A t.chs.length cp].toArray 45) = w1 from hw.symm, ← hp] at bc
  rw [← hw] at t0
  have HW0 := Lib.hid hw
  have HP := Lib.hid hp
  have HD := Lib.hid (hd.keep ChgR.lasts (t0.keeps0 S))
  have HT := Lib.hid ht
  have HT0 := Lib.hid t0
  have HBC := Lib.hid bc
  obtain ⟨n, hn⟩ : ∃ n, n = t.chs.length := ⟨_, rfl⟩
  have hn1 : n ≤ 1000 := by rw [hn]; exact ht.len
  have HN := Lib.hid (And.intro hn hn1)
  have HRW := Lib.hid (txRows_len t)
  have hm0 : HMine w1 w1 (.slice none 0 0) ((txRows t).take 0) := by simpa using HMine.nil (Turns.refl [] w1)
  have HM0 := Lib.hid hm0
  rw [← hn]
  clear bc t0 hw hp hd ht hcp hn hm0
  go_enter Tryz.func52, Tryz.ntmps52
  go_upto_region 1 with fail
  rw [← HN.out.1] at HW0
  rw [← HW0.out, ← HP.out]
  go_wp2_with fail
  go_loopw [3, 4] (fun u i wr => ∃ (k : Nat) (A' : Option Addr) (c' : Nat), k ≤ n ∧ i = .int .i64 k ∧ u = .slice A' k c' ∧ HMine w1 wr (.slice A' k c') ((txRows t).take k)) (fun _ i _ => n - (intOf i).toNat)
  case atStart => exact ⟨0, none, 0, by omega, rfl, rfl, HM0.out⟩
  case round =>
    obtain ⟨k, Au, cu, hk, rfl, rfl, m0⟩ := hrel
    have t0 := m0.turns
    have bk := HBC.out.turns t0 (by simp)
    have C1 := bk.cell 1
    simp only [List.getElem?_cons_zero, List.getElem?_cons_succ] at C1
    rw [← HN.out.1] at C1
    by_cases hlt : k < n
    · have hki : (k : Int) < (n : Int) := by omega
      have hkl : k < t.chs.length := by have := HN.out.1; omega
      obtain ⟨b, off, cc, cs, hv, hS, hb, hcl, rg0, hR0⟩ := HD.out.at_ (by omega) k hkl
      injection hv with e1 e2 e3
      subst e1 e3
      clear e2
      have rg := rangeV t0 rg0
      have hR := hR0.on t0
      clear rg0 hR0
      have hL : ∀ x ∈ (Value.slice Au k cu).ownBlock.toList, w1.heap.size ≤ x := fun x hx => (m0.own.lt x (by simpa using hx)).1
      have HPL := Lib.hid (show p ∉ (Value.slice Au k cu).ownBlock.toList from fun hm => by have := hL p hm; have := HBC.out.lt; omega)
      have HBL := Lib.hid (show b ∉ (Value.slice Au k cu).ownBlock.toList from fun hm => by have := hL b hm; omega)
      clear hL
      have hck := HT.out.chs _ (List.getElem_mem hkl)
      have hst := txRows_step t k hkl
      obtain ⟨c, hc⟩ : ∃ c, c = t.chs[k] := ⟨_, rfl⟩
      rw [← hc] at hR hck hst
      obtain ⟨rv, rfl, hsl⟩ := hR
      obtain ⟨Ar, cr, rfl, _⟩ := hsl.form'
      have hz1 := size_chg c.table c.op (.slice Ar c.row.length cr)
      have HST := Lib.hid hst
      have HMX := Lib.hid m0
      have HSL := Lib.hid hsl
      have HCK := Lib.hid hck
      clear m0 hck hst hc hsl hcl hb hkl
      go_upto_region 5 with fail
      obtain ⟨Y, hY⟩ : ∃ q, q = wr.drew := ⟨_, rfl⟩
      have tY : Turns [] wr Y := by rw [hY]; exact (Turns.refl _ _).drew
      have HTY := Lib.hid tY
      have C1 := cellV tY C1
      have C0 := (bk.turns tY (by simp)).cell 0
      simp only [List.getElem?_cons_zero, List.getElem?_cons_succ] at C0
      have rY := rangeV tY rg
      have S0 : Turns (Value.slice Au k cu).ownBlock.toList Y Y := Turns.refl _ _
      have HYY := Lib.hid hY
      have HRG := Lib.hid rY
      clear hY tY bk rg rY t0
      refine rk0 (fun W => Turns (Value.slice Au k cu).ownBlock.toList Y W) (fun _ => True) 13 13 ?_
      rw [← HYY.out]
      refine rkA 0 12 1 (v := ?_) ?_ (.mk' S0 trivial) ?_
      rotate_left
      · intro W hS; go_simp; all_goals with_reducible rfl
      try simp only [sI, sS, sZ]
      refine rkA 1 13 3 (v := ?_) ?_ (.mk' S0 trivial) ?_
      rotate_left
      · intro W hS; go_simp; all_goals with_reducible rfl
      try simp only [sI, sS, sZ]
      refine rkA 2 14 7 (v := ?_) ?_ (.mk' S0 trivial) ?_
      rotate_left
      · intro W hS; have c0 := cellL hS C0 HPL.out; go_simp; all_goals with_reducible rfl
      try simp only [sI, sS, sZ]
      refine rkA 3 15 15 (v := ?_) ?_ (.mk' S0 trivial) ?_
      rotate_left
      · intro W hS; go_simp; all_goals with_reducible rfl
      try simp only [sI, sS, sZ]
      refine rkA 4 16 31 (v := ?_) ?_ (.mk' S0 trivial) ?_
      rotate_left
      · intro W hS; go_simp; all_goals with_reducible rfl
      try simp only [sI, sS, sZ]
      refine rkA 5 17 63 (v := ?_) ?_ (.mk' S0 trivial) ?_
      rotate_left
      · intro W hS; have c0 := cellL hS C1 HPL.out; go_simp; all_goals with_reducible rfl
      try simp only [sI, sS, sZ]
      refine rkA 6 18 127 (v := ?_) ?_ (.mk' S0 trivial) ?_
      rotate_left
      · intro W hS; go_simp; all_goals with_reducible rfl
      try simp only [sI, sS, sZ]
      refine rkA 7 19 255 (v := ?_) ?_ (.mk' S0 trivial) ?_
      rotate_left
      · intro W hS; go_simp; all_goals with_reducible rfl
      try simp only [sI, sS, sZ]
      refine rkY 8 20 511 rfl (yieldsIf_load_mid (by rfl) _ _ rfl b (off + k * 3) (by rfl) _ _ (fun W hS => rangeT hS HRG.out HBL.out) Tryz.underlying67 rfl hz1) (.mk' S0 trivial) ?_
      try simp only [sI, sS, sZ]
      refine rk1 9 1023 (fun K hK => ?_)
      go_simp
      refine (RRow_any t.id k c HCK.out _ Y (((HTY.out.slice HSL.out.sl (Nat.le_refl _) (by simp)).more HTY.out.size))).mono ?_
      rintro e x2 ⟨rfl, t2⟩
      have m2 := (HMX.out.on HTY.out).on t2
      have hkk : ((txRows t).take k).length = k := by rw [List.length_take, HRW.out]; have := HN.out; omega
      obtain ⟨v9, w9, hr9, m9, d9⟩ := hmine_push2 m2 (by rw [hkk]; have := HN.out; omega) (chgSum t.id k c) (chgSum_len _ _ _) 68
      rw [← HST.out] at m9
      obtain ⟨A9, c9, rfl, _⟩ := m9.len
      have hk1 : ((txRows t).take (k + 1)).length = k + 1 := by rw [List.length_take, HRW.out]; have := HN.out; omega
      rw [hk1] at m9
      rw [hk1] at hr9
      have HM9 := Lib.hid m9
      have hl32 := chgSum_len t.id k c
      generalize chgSum t.id k c = h32 at hr9 hl32 ⊢
      clear m2 m9 hk1 hkk
      refine hK _ _ (.mk' (t2.mono (by simp)) trivial) ?_
      clear hK K
      try simp only [sI, sS, sZ]
      refine rk1 10 2047 (fun K hK => ?_)
      refine wp_build_hash1 h32 hl32 (.tmp 21) (by rfl) (by rfl) ?_
      refine hK _ _ (.mk' ((t2.alloc _).mono (by simp)) trivial) ?_
      clear hK K
      try simp only [sI, sS, sZ]
      refine rk1 11 4095 (fun K hK => ?_)
      refine wp_append_run (P := Tryz.prog) (w := x2.alloc (.cells (bvs h32).toArray 53)) (.tmp 12) (.tmp 22) (by rfl) (vs := _) (vx := _) (by rfl) (by rfl) (R := fun v w' => Value.slice A9 (k + 1) c9 = v ∧ w9 = w') ⟨_, _, hr9, rfl, rfl⟩ ?_
      rintro _ _ ⟨rfl, rfl⟩
      refine hK _ _ (.mk' ((t2.mono (by simp)).trans d9 (fun x hx => .inl hx)) trivial) ?_
      clear hK K
      try simp only [sI, sS, sZ]
      refine rkA 12 3 8191 (v := ?_) ?_ (.mk' ((t2.mono (by simp)).trans d9 (fun x hx => .inl hx)) trivial) ?_
      rotate_left
      · intro W hS; go_simp; all_goals with_reducible rfl
      try simp only [sI, sS, sZ]
      refine rkZ ?_
      clear C0 S0
      go_wp2_with fail
      go_roundw
      case rel => exact ⟨k + 1, A9, c9, by omega, by go_num, rfl, HM9.out⟩
      case measure => (simp [intOf] <;> omega)
    · obtain rfl : k = n := by omega
      rw [List.take_of_length_le (by rw [HRW.out]; have := HN.out; omega)] at m0
      have HF := Lib.hid (HMine.base HT0.out m0)
      clear m0 t0 bk
      go_wp2_with fail
      go_ret
      exact ⟨_, _, rfl, HF.out⟩

set_option maxRecDepth 100000 in
set_option maxHeartbeats 4000000 in
theorem RRoot_any (t : Txn) (ht : t.ok) (cv : Value) (S : Nat → Prop) (w0 : World) (hd : Deep ChgR w0 S 3 cv t.chs) :
    Calls Tryz.prog 95 #[.agg #[.int .i64 t.id, cv]] w0 fun e w' => e = .returned (.agg (bvs (txRoot t)).toArray) ∧ Turns [] w0 w' := by
  obtain ⟨A, cp, rfl, hcp, _⟩ := hd.form
  obtain ⟨w, hw⟩ : ∃ x, x = w0.alloc (.cells #[.int .i64 t.id, .slice A t.chs.length cp] 45) := ⟨_, rfl⟩
  obtain ⟨p, hp⟩ : ∃ p, p = w0.heap.size := ⟨_, rfl⟩
  have bc := Blk.new w0 [.int .i64 t.id, .slice A t.chs.length cp] 45
  have t0 := (Turns.refl [] w0).alloc (.cells #[.int .i64 t.id, .slice A t.chs.length cp] 45)
  have hs0 : w.heap.size = w0.heap.size + 1 := by rw [hw]; simp
  have HS0 := Lib.hid (show w0.heap.size ≤ w.heap.size by omega)
  rw [show w0.alloc (.cells [.int .i64 t.id, .slice A t.chs.length cp].toArray 45) = w from hw.symm, ← hp] at bc
  rw [← hw] at t0
  have HW0 := Lib.hid hw
  have HP := Lib.hid hp
  obtain ⟨res, hres⟩ : ∃ r, r = bvs (txRoot t) := ⟨_, rfl⟩
  rw [← hres]
  have HRES := Lib.hid hres
  have hz32 := zero_hash
  have hzl := zeros32_len
  have b2 := Blk.new w (bvs (zeros 32)) 53
  have t1 := (Turns.refl [] w).alloc (.cells (bvs (zeros 32)).toArray 53)
  generalize hzz : bvs (zeros 32) = zz at hz32 hzl b2 t1
  obtain ⟨w1, hw1⟩ : ∃ x, x = w.alloc (.cells zz.toArray 53) := ⟨_, rfl⟩
  rw [← hw1] at b2 t1
  have hs1 : w1.heap.size = w.heap.size + 1 := by rw [hw1]; simp
  have HS1 := Lib.hid hs1
  have HW1 := Lib.hid hw1
  have HZL := Lib.hid hzl
  have H0 := Lib.hid (And.intro b2 t1)
  clear hres hzz hw1 hzl b2 t1 hs1
  have HLEN := Lib.hid (show (txRoot t).length = 32 from txRoot_len t)
  have t01 := t0.trans H0.out.2 (by simp)
  have RX := Lib.hid (RRows_any t ht (.slice A t.chs.length cp) S w1 (hd.keep ChgR.lasts (t01.keeps0 S)))
  have r5 := (bc.turns H0.out.2 (by simp)).range 0 2
  simp only [List.drop_zero, List.take_succ_cons, List.take_zero] at r5
  have hz1 := size_tx t.id (.slice A t.chs.length cp)
  have HT0 := Lib.hid t01
  have HT := Lib.hid ht
  clear bc t0 t01 hw hp hd hs0 ht hcp
  go_enter Tryz.func95, Tryz.ntmps95
  go_upto_region 1 with (first | (refine wpList_alloc_arr (o := ⟨some 2, _, _, _, _, _⟩) rfl 53 rfl zz.toArray hz32 ?_) | fail)
  try simp only [Act.put, List.setIfInBounds_toArray, List.set_cons_succ, List.set_cons_zero]
  rw [← HW0.out, ← HW1.out, ← HP.out]
  go_wp2_with (first
    | (refine wpList_load_mid rfl 45 (.tmp 1) rfl p 0 rfl _ _ r5 Tryz.underlying45 rfl hz1 ?_)
    | fail)
  refine RX.out.mono ?_
  rintro e w2 ⟨A2, c2, rfl, m2⟩
  have RR := Lib.hid (refRoot_any t.chs.length (txRows t) t.chs.length (txRows_len t) (Nat.le_refl _) (by have := HT.out.len; omega) A2 c2 w2.heap.size w2 m2.hs (Nat.le_refl _))
  have H2 := Lib.hid m2.turns
  clear m2 RX r5
  go_wp2_with fail
  refine RR.out.mono ?_
  rintro e w3 ⟨rfl, t3⟩
  rw [show bvs (mroot (txRows t)) = res from HRES.out.symm]
  have H3 := Lib.hid (H2.out.trans t3 (by simp))
  clear t3 RR
  have hrl : res.length = 32 := by rw [HRES.out, bvs_length]; exact HLEN.out
  have hr1 : ∀ u ∈ res, u.oneCell' = true := by rw [HRES.out]; exact bvs_one _
  have Q_b2 := Lib.hid (H0.out.1.turns H3.out (by simp))
  have Q_l := Lib.hid (show zz.length = res.length by rw [HZL.out, hrl])
  have Q_sz := Lib.hid (show (Tryz.prog.info? 53).map (·.size) = some res.length by rw [size_hash, hrl])
  have Q_1 := Lib.hid hr1
  clear hrl hr1
  go_wp2_with (first
    | (refine wpList_store_blk rfl 53 (.tmp 2) (.tmp 5) rfl w.heap.size (by kernel_rfl) res zz 53 (by kernel_rfl) Q_b2.out Q_l.out Q_sz.out Q_1.out (fun w9 hb9 ht9 hs9 => ?_); have HQ9 := Lib.hid (And.intro hb9 ht9); clear hb9 ht9 hs9)
    | fail)
  refine bodyPost_ret (results_cell_row rfl _ _ w.heap.size _ _ _ _ (by kernel_rfl) HQ9.out.1 Tryz.underlying53 rfl (by rw [List.size_toArray]; exact Q_sz.out)) rfl ?_
  exact ⟨rfl, (HT0.out.trans H3.out (by simp)).trans HQ9.out.2 (by intro x hx; simp at hx; exact .inr (by have := HS0.out; omega))⟩

set_option maxRecDepth 100000 in
set_option maxHeartbeats 2000000 in
theorem EntryText_any (id n : Int) (r : List UInt8) (hr : r.length = 32) (w0 : World) :
    Calls Tryz.prog 94 #[.int .i64 id, .int .i64 n, .agg (bvs r).toArray] w0 fun e w' => ∃ A c', e = .returned (.slice A (entText id n r).length c') ∧ Mine w0 w' (.slice A (entText id n r).length c') (entText id n r) := by
  obtain ⟨w, hw⟩ : ∃ x, x = w0.alloc (.cells (bvs r).toArray 53) := ⟨_, rfl⟩
  obtain ⟨p, hp⟩ : ∃ p, p = w0.heap.size := ⟨_, rfl⟩
  have bc := Blk.new w0 (bvs r) 53
  have t0 := (Turns.refl [] w0).alloc (.cells (bvs r).toArray 53)
  rw [← hw, ← hp] at bc
  rw [← hw] at t0
  have HW0 := Lib.hid hw
  have HP := Lib.hid hp
  obtain ⟨Y, hY⟩ : ∃ q, q = w.drew := ⟨_, rfl⟩
  have tY : Turns [] w Y := by rw [hY]; exact (Turns.refl _ _).drew
  have tw := t0.trans tY (by simp)
  have bY := bc.turns tY (by simp)
  have hbl := bY.lt
  have HB := Lib.hid (And.intro (bytes32 bY hr) hbl)
  have S0 : Turns [] Y Y := Turns.refl _ _
  have HH := Lib.hid tw
  have HY := Lib.hid hY
  obtain ⟨bt, hbt⟩ : ∃ b, b = [] ++ le8 id ++ le8 n ++ r := ⟨_, rfl⟩
  have HBT := Lib.hid hbt
  have HTX := Lib.hid (show bt = entText id n r by rw [hbt]; simp [entText])
  have hR := Lib.hid hr
  rw [← HTX.out]
  clear hw hp bc t0 hY tY tw bY hbl hbt hr
  go_enter Tryz.func94, Tryz.ntmps94
  go_upto_region 1 with fail
  rw [← HW0.out, ← HP.out]
  refine rk0 (fun W => Turns [] Y W) (fun _ => True) 7 7 ?_
  rw [← HY.out]
  refine rkA 0 7 1 (v := ?_) ?_ (.mk' S0 trivial) ?_
  rotate_left
  · intro W hS; go_simp; all_goals with_reducible rfl
  try simp only [sI, sS, sZ]
  refine rkA 2 9 5 (v := ?_) ?_ (.mk' S0 trivial) ?_
  rotate_left
  · intro W hS; go_simp; all_goals with_reducible rfl
  try simp only [sI, sS, sZ]
  refine rkA 4 11 21 (v := ?_) ?_ (.mk' S0 trivial) ?_
  rotate_left
  · intro W hS; go_simp; all_goals with_reducible rfl
  try simp only [sI, sS, sZ]
  refine rk1 1 23 (fun K hK => ?_)
  go_simp
  refine (RInt id (Mine.nil (Turns.refl [] Y)) (by simp)).mono ?_
  rintro e X8 ⟨v8, rfl, m8⟩
  refine hK _ _ (.mk' m8.turns trivial) ?_
  clear hK K
  try simp only [sI, sS, sZ]
  refine rk1 3 31 (fun K hK => ?_)
  go_simp
  refine (RInt n m8 (by simp [le8_length])).mono ?_
  rintro e X10 ⟨v10, rfl, m10⟩
  obtain ⟨v12, X12, hr12, m12⟩ := mine_append m10 (m10.turns.slice HB.out.1 (by have := HB.out.2; omega) (by simp)) (by rw [hR.out]; simp [le8_length]) 129
  rw [← HBT.out] at m12
  obtain ⟨A12, c12, rfl, _⟩ := m12.len
  refine hK _ _ (.mk' m10.turns trivial) ?_
  clear hK K
  try simp only [sI, sS, sZ]
  refine rk1 5 63 (fun K hK => ?_)
  refine wp_append_run (P := Tryz.prog) (w := X10) (.tmp 10) (.tmp 11) (by rfl) (vs := _) (vx := _) (by rfl) (by rfl) (R := fun v w' => Value.slice A12 _ c12 = v ∧ X12 = w') ⟨_, _, hr12, rfl, rfl⟩ ?_
  rintro _ _ ⟨rfl, rfl⟩
  refine hK _ _ (.mk' m12.turns trivial) ?_
  clear hK K
  try simp only [sI, sS, sZ]
  refine rkA 6 6 127 (v := ?_) ?_ (.mk' m12.turns trivial) ?_
  rotate_left
  · intro W hS; go_simp; all_goals with_reducible rfl
  try simp only [sI, sS, sZ]
  refine rkZ ?_
  have HF := Lib.hid (mine_base m12 HH.out)
  clear m12 m10 m8 hr12 S0
  go_wp2_with fail
  go_ret
  exact ⟨_, _, rfl, HF.out⟩

set_option maxRecDepth 100000 in
set_option maxHeartbeats 4000000 in
theorem REntry_any (t : Txn) (ht : t.ok) (cv : Value) (S : Nat → Prop) (w0 : World) (hd : Deep ChgR w0 S 3 cv t.chs) :
    Calls Tryz.prog 68 #[.agg #[.int .i64 t.id, cv]] w0 fun e w' => e = .returned (.agg (bvs (entry t)).toArray) ∧ Turns [] w0 w' := by
  obtain ⟨A, cp, rfl, hcp, _⟩ := hd.form
  obtain ⟨w, hw⟩ : ∃ x, x = w0.alloc (.cells #[.int .i64 t.id, .slice A t.chs.length cp] 45) := ⟨_, rfl⟩
  obtain ⟨p, hp⟩ : ∃ p, p = w0.heap.size := ⟨_, rfl⟩
  have bc := Blk.new w0 [.int .i64 t.id, .slice A t.chs.length cp] 45
  have t0 := (Turns.refl [] w0).alloc (.cells #[.int .i64 t.id, .slice A t.chs.length cp] 45)
  have hs0 : w.heap.size = w0.heap.size + 1 := by rw [hw]; simp
  have HS0 := Lib.hid (show w0.heap.size ≤ w.heap.size by omega)
  rw [show w0.alloc (.cells [.int .i64 t.id, .slice A t.chs.length cp].toArray 45) = w from hw.symm, ← hp] at bc
  rw [← hw] at t0
  have HW0 := Lib.hid hw
  have HP := Lib.hid hp
  obtain ⟨res, hres⟩ : ∃ r, r = bvs (entry t) := ⟨_, rfl⟩
  rw [← hres]
  have HRES := Lib.hid hres
  have hz32 := zero_hash
  have hzl := zeros32_len
  have b2 := Blk.new w (bvs (zeros 32)) 53
  have t1 := (Turns.refl [] w).alloc (.cells (bvs (zeros 32)).toArray 53)
  generalize hzz : bvs (zeros 32) = zz at hz32 hzl b2 t1
  obtain ⟨w1, hw1⟩ : ∃ x, x = w.alloc (.cells zz.toArray 53) := ⟨_, rfl⟩
  rw [← hw1] at b2 t1
  have hs1 : w1.heap.size = w.heap.size + 1 := by rw [hw1]; simp
  have HS1 := Lib.hid hs1
  have HW1 := Lib.hid hw1
  have HZL := Lib.hid hzl
  have H0 := Lib.hid (And.intro b2 t1)
  clear hres hzz hw1 hzl b2 t1 hs1
  have HLEN := Lib.hid (show (entry t).length = 32 from entry_len t)
  have t01 := t0.trans H0.out.2 (by simp)
  have hz1 := size_tx t.id (.slice A t.chs.length cp)
  have bc1 := bc.turns H0.out.2 (by simp)
  obtain ⟨Y, hY⟩ : ∃ q, q = w1.drew := ⟨_, rfl⟩
  have tY : Turns [] w1 Y := by rw [hY]; exact (Turns.refl _ _).drew
  have bY := bc1.turns tY (by simp)
  have C0 := bY.cell 0
  have C1 := bY.cell 1
  simp only [List.getElem?_cons_zero, List.getElem?_cons_succ] at C0 C1
  have r5 := bY.range 0 2
  simp only [List.drop_zero, List.take_succ_cons, List.take_zero] at r5
  have HR5 := Lib.hid r5
  have HPQ := Lib.hid (show p ≠ w.heap.size by omega)
  have HD := Lib.hid (hd.keep ChgR.lasts ((t01.trans tY (by simp)).keeps0 S))
  have HT0 := Lib.hid t01
  have HT := Lib.hid ht
  have HY := Lib.hid tY
  have HYY := Lib.hid hY
  have S0 : Turns [w.heap.size] Y Y := Turns.refl _ _
  have hrl : res.length = 32 := by rw [HRES.out, bvs_length]; exact HLEN.out
  have hr1 : ∀ u ∈ res, u.oneCell' = true := by rw [HRES.out]; exact bvs_one _
  have Q_sz := Lib.hid (show (Tryz.prog.info? 53).map (·.size) = some res.length by rw [size_hash, hrl])
  have Q_l := Lib.hid (show zz.length = res.length by rw [HZL.out, hrl])
  have Q_1 := Lib.hid hr1
  clear hrl hr1
  have HTX := Lib.hid (show bvs (leafH (entText t.id ((t.chs.length : Nat) : Int) (txRoot t))) = res by rw [HRES.out]; rfl)
  have HEL := Lib.hid (show (entText t.id ((t.chs.length : Nat) : Int) (txRoot t)).length ≤ 100000000 by simp [entText, le8_length, txRoot_len])
  clear bc bc1 t0 t01 hw hp hd hs0 ht hcp hY tY bY r5
  go_enter Tryz.func68, Tryz.ntmps68
  go_upto_region 1 with (first | (refine wpList_alloc_arr (o := ⟨some 2, _, _, _, _, _⟩) rfl 53 rfl zz.toArray hz32 ?_) | fail)
  try simp only [Act.put, List.setIfInBounds_toArray, List.set_cons_succ, List.set_cons_zero]
  rw [← HW0.out, ← HW1.out, ← HP.out]
  refine rk0 (fun W => Turns [w.heap.size] Y W) (fun _ => True) 10 10 ?_
  rw [← HYY.out]
  refine rkA 0 3 1 (v := ?_) ?_ (.mk' S0 trivial) ?_
  rotate_left
  · intro W hS; go_simp; all_goals with_reducible rfl
  try simp only [sI, sS, sZ]
  refine rkA 1 4 3 (v := ?_) ?_ (.mk' S0 trivial) ?_
  rotate_left
  · intro W hS; have c0 := cellL hS C0 (by simp; exact HPQ.out); go_simp; all_goals with_reducible rfl
  try simp only [sI, sS, sZ]
  refine rkA 2 5 7 (v := ?_) ?_ (.mk' S0 trivial) ?_
  rotate_left
  · intro W hS; go_simp; all_goals with_reducible rfl
  try simp only [sI, sS, sZ]
  refine rkA 3 6 15 (v := ?_) ?_ (.mk' S0 trivial) ?_
  rotate_left
  · intro W hS; have c0 := cellL hS C1 (by simp; exact HPQ.out); go_simp; all_goals with_reducible rfl
  try simp only [sI, sS, sZ]
  refine rkA 4 7 31 (v := ?_) ?_ (.mk' S0 trivial) ?_
  rotate_left
  · intro W hS; go_simp; all_goals with_reducible rfl
  try simp only [sI, sS, sZ]
  refine rkY 5 8 63 rfl (yieldsIf_load_mid (by rfl) _ _ rfl p 0 (by rfl) _ _ (fun W hS => rangeT hS HR5.out (by simp; exact HPQ.out)) Tryz.underlying45 rfl hz1) (.mk' S0 trivial) ?_
  try simp only [sI, sS, sZ]
  refine rk1 6 127 (fun K hK => ?_)
  go_simp
  refine (RRoot_any t HT.out _ S Y HD.out).mono ?_
  rintro e X9 ⟨rfl, D9⟩
  refine hK _ _ (.mk' (((Turns.refl [] Y).trans D9 (by simp)).mono (by simp)) trivial) ?_
  clear hK K
  try simp only [sI, sS, sZ]
  refine rk1 7 255 (fun K hK => ?_)
  go_simp
  refine (EntryText_any t.id ((t.chs.length : Nat) : Int) (txRoot t) (txRoot_len t) X9).mono ?_
  rintro e X10 ⟨A10, c10, rfl, m10⟩
  have D10 := m10.turns
  refine hK _ _ (.mk' ((((Turns.refl [] Y).trans D9 (by simp)).trans D10 (by simp)).mono (by simp)) trivial) ?_
  clear hK K
  try simp only [sI, sS, sZ]
  refine rk1 8 511 (fun K hK => ?_)
  go_simp
  refine (refLeaf_any _ _ _ _ _ _ m10.sl (Nat.le_refl _) HEL.out).mono ?_
  rintro e X11 ⟨rfl, D11⟩
  rw [HTX.out]
  refine hK _ _ (.mk' (((((Turns.refl [] Y).trans D9 (by simp)).trans D10 (by simp)).trans D11 (by simp)).mono (by simp)) trivial) ?_
  clear hK K
  try simp only [sI, sS, sZ]
  refine rk1 9 1023 (fun K hK => ?_)
  refine wp_store_blk 53 _ _ (by rfl) w.heap.size (by rfl) res zz 53 (by rfl) ((H0.out.1.turns HY.out (by simp)).turns ((((Turns.refl [] Y).trans D9 (by simp)).trans D10 (by simp)).trans D11 (by simp)) (by simp)) Q_l.out Q_sz.out Q_1.out (fun X25 hb25 ht25 => ?_)
  have HE := Lib.hid (And.intro hb25 ((((((Turns.refl [] Y).trans D9 (by simp)).trans D10 (by simp)).trans D11 (by simp)).mono (by simp)).trans ht25 (fun x hx => .inl hx)))
  refine hK _ _ (.mk' HE.out.2 trivial) ?_
  clear hK K
  try simp only [sI, sS, sZ]
  refine rkZ ?_
  go_wp2_with fail
  refine bodyPost_ret (results_cell_row rfl _ _ w.heap.size _ _ _ _ (by kernel_rfl) HE.out.1 Tryz.underlying53 rfl (by rw [List.size_toArray]; exact Q_sz.out)) rfl ?_
  exact ⟨rfl, ((HT0.out.trans HY.out (by simp)).trans HE.out.2 (by intro x hx; simp at hx; exact .inr (by have := HS0.out; omega)))⟩
end Go.Proofs.YtoahnhphfabajaaGreat
