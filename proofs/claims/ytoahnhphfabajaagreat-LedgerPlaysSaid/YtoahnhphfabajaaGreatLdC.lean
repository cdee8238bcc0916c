/- Roots of transactions, walked: code's. -/
import Derived.Test.YtoahnhphfabajaaGreatLdB
namespace Go.Proofs.YtoahnhphfabajaaGreat
open Go.RowKit
set_option linter.unusedVariables false
set_option maxRecDepth 10000
set_option linter.unusedSimpArgs false
set_option linter.unnecessarySimpa false

theorem size_chg (tb : ByteArray) (op : Int) (rv : Value) : (Tryz.prog.info? 67).map (·.size) = some ([.string tb, .int .i64 op, rv] : List Value).length := by kernel_rfl
theorem size_tx (id : Int) (cv : Value) : (Tryz.prog.info? 45).map (·.size) = some ([.int .i64 id, cv] : List Value).length := by kernel_rfl
theorem ChgR.on {w w' : World} {S : Nat → Prop} {cs : List Value} {c : Chg} (h : ChgR w S cs c) (t : Turns [] w w') : ChgR w' S cs c := ChgR.lasts.keep h (t.keeps0 S)
theorem TxR.on {w w' : World} {S : Nat → Prop} {cs : List Value} {c : Txn} (h : TxR w S cs c) (t : Turns [] w w') : TxR w' S cs c := TxR.lasts.keep h (t.keeps0 S)

set_option maxRecDepth 100000 in
set_option maxHeartbeats 4000000 in
theorem CRoot_any (t : Txn) (ht : t.ok) (cv : Value) (S : Nat → Prop) (w0 : World) (hd : Deep ChgR w0 S 3 cv t.chs) :
    Calls Tryz.prog 76 #[.agg #[.int .i64 t.id, cv]] w0 fun e w' => e = .returned (.agg (bvs (txRoot t)).toArray) ∧ Turns [] w0 w' := by
  obtain ⟨A, cp, rfl, hcp, _⟩ := hd.form
  obtain ⟨w, hw⟩ : ∃ x, x = w0.alloc (.cells #[.int .i64 t.id, .slice A t.chs.length cp] 45) := ⟨_, rfl⟩
  obtain ⟨p, hp⟩ : ∃ p, p = w0.heap.size := ⟨_, rfl⟩
  have bc := Blk.new w0 [.int .i64 t.id, .slice A t.chs.length cp] 45
  have t0 := (Turns.refl [] w0).alloc (.cells #[.int .i64 t.id, .slice A t.chs.length cp] 45)
  have hs0 : w.heap.size = w0.heap.size + 1 := by rw [hw]; simp
  have HS0 := Lib.hid (show w0.heap.size ≤ w.heap.size by omega)
  rw [show w0.alloc (.cells [.int .i64 t.id, .slice A t.chs.length cp].toArray 45) = w from hw.symm, ← hp] at bc
  rw [← hw] at t0
  have HW0 := Lib.hid hw
  have HP := Lib.hid hp
  obtain ⟨res, hres⟩ : ∃ r, r = bvs (txRoot t) := ⟨_, rfl⟩
  rw [← hres]
  have HRES := Lib.hid hres
  have hz32 := zero_hash
  have hzl := zeros32_len
  have b2 := Blk.new w (bvs (zeros 32)) 53
  have t1 := (Turns.refl [] w).alloc (.cells (bvs (zeros 32)).toArray 53)
  generalize hzz : bvs (zeros 32) = zz at hz32 hzl b2 t1
  obtain ⟨w1, hw1⟩ : ∃ x, x = w.alloc (.cells zz.toArray 53) := ⟨_, rfl⟩
  rw [← hw1] at b2 t1
  have hs1 : w1.heap.size = w.heap.size + 1 := by rw [hw1]; simp
  have HS1 := Lib.hid hs1
  have HW1 := Lib.hid hw1
  have HZL := Lib.hid hzl
  have H0 := Lib.hid (And.intro b2 t1)
  clear hres hzz hw1 hzl b2 t1 hs1
  have HLEN := Lib.hid (show (txRoot t).length = 32 from txRoot_len t)
  have t01 := t0.trans H0.out.2 (by simp)
  have HD := Lib.hid (hd.keep ChgR.lasts (t01.keeps0 S))
  have bc1 := bc.turns H0.out.2 (by simp)
  have HT := Lib.hid ht
  have HT0 := Lib.hid t01
  have HBC := Lib.hid bc1
  obtain ⟨n, hn⟩ : ∃ n, n = t.chs.length := ⟨_, rfl⟩
  have hn1 : n ≤ 1000 := by rw [hn]; exact ht.len
  have HN := Lib.hid (And.intro hn hn1)
  have C1 := bc1.cell 1
  simp only [List.getElem?_cons_zero, List.getElem?_cons_succ] at C1
  rw [← hn] at C1
  have HC1 := Lib.hid C1
  have HRW := Lib.hid (txRows_len t)
  have hm0 : HMine w1 w1 (.slice none 0 0) ((txRows t).take 0) := by simpa using HMine.nil (Turns.refl [] w1)
  have HM0 := Lib.hid hm0
  clear bc bc1 t0 t01 hw hp hd hs0 ht hcp hn hm0
  go_enter Tryz.func76, Tryz.ntmps76
  go_upto_region 1 with (first | (refine wpList_alloc_arr (o := ⟨some 2, _, _, _, _, _⟩) rfl 53 rfl zz.toArray hz32 ?_) | fail)
  try simp only [Act.put, List.setIfInBounds_toArray, List.set_cons_succ, List.set_cons_zero]
  rw [← HN.out.1]
  rw [← HN.out.1] at HW0
  rw [← HW0.out, ← HW1.out, ← HP.out]
  go_wp2_with fail
  go_loopw [3, 9] (fun u i wr => ∃ (k : Nat) (A' : Option Addr) (c' : Nat), k ≤ n ∧ i = .int .i64 k ∧ u = .slice A' k c' ∧ HMine w1 wr (.slice A' k c') ((txRows t).take k)) (fun _ i _ => n - (intOf i).toNat)
  case atStart => exact ⟨0, none, 0, by omega, rfl, rfl, HM0.out⟩
  case round =>
    obtain ⟨k, Au, cu, hk, rfl, rfl, m0⟩ := hrel
    have t0 := m0.turns
    by_cases hlt : k < n
    · have hki : (k : Int) < (n : Int) := by omega
      have hkl : k < t.chs.length := by have := HN.out.1; omega
      obtain ⟨b, off, cc, cs, hv, hS, hb, hcl, rg, hR⟩ := (HD.out.keep ChgR.lasts (t0.keeps0 S)).at_ (by omega) k hkl
      injection hv with e1 e2 e3
      subst e1 e3
      clear e2
      have hck := HT.out.chs _ (List.getElem_mem hkl)
      have hst := txRows_step t k hkl
      obtain ⟨c, hc⟩ : ∃ c, c = t.chs[k] := ⟨_, rfl⟩
      rw [← hc] at hR hck hst
      obtain ⟨rv, rfl, hsl⟩ := hR
      obtain ⟨Ar, cr, rfl, _⟩ := hsl.form'
      have hz1 := size_chg c.table c.op (.slice Ar c.row.length cr)
      obtain ⟨X1, hX1⟩ : ∃ X1, X1 = wr.alloc (.cells #[.string c.table, .int .i64 c.op, .slice Ar c.row.length cr] 67) := ⟨_, rfl⟩
      have b5 := Blk.new wr [.string c.table, .int .i64 c.op, .slice Ar c.row.length cr] 67
      rw [show wr.alloc (.cells [.string c.table, .int .i64 c.op, .slice Ar c.row.length cr].toArray 67) = X1 from hX1.symm] at b5
      obtain ⟨p5, hp5⟩ : ∃ q, q = wr.heap.size := ⟨_, rfl⟩
      rw [← hp5] at b5
      have tX : Turns [] wr X1 := by rw [hX1]; exact (Turns.refl _ _).alloc _
      have r5 := b5.range 0 3
      simp only [List.drop_zero, List.take_succ_cons, List.take_zero] at r5
      have C0 := (HBC.out.turns (t0.trans tX (by simp)) (by simp)).cell 0
      simp only [List.getElem?_cons_zero, List.getElem?_cons_succ] at C0
      have CR := Lib.hid (CRow_any t.id k c hck (.slice Ar c.row.length cr) X1 ((tX.slice hsl.sl (Nat.le_refl _) (by simp)).more tX.size))
      have HX1 := Lib.hid hX1
      have HP5 := Lib.hid hp5
      have HMX := Lib.hid (m0.on tX)
      have HST := Lib.hid hst
      clear m0 t0 hck hst hc hsl hcl hX1 hp5 tX b5 hb hkl
      go_upto_region 5 with (first
        | (refine wpList_load_mid rfl 67 (.tmp 12) rfl b (off + k * 3) rfl _ _ rg Tryz.underlying67 rfl hz1 ?_)
        | fail)
      rw [← HX1.out, ← HP5.out]
      go_wp2_with (first
        | (refine wpList_load_mid rfl 67 (.tmp 5) rfl p5 0 rfl _ _ r5 Tryz.underlying67 rfl hz1 ?_)
        | fail)
      refine CR.out.mono ?_
      rintro e x2 ⟨rfl, t2⟩
      have m2 := HMX.out.on t2
      have hkk : ((txRows t).take k).length = k := by rw [List.length_take, HRW.out]; have := HN.out; omega
      obtain ⟨v9, w9, hr9, m9⟩ := hmine_push m2 (by rw [hkk]; have := HN.out; omega) (chgSum t.id k c) (chgSum_len _ _ _) 68
      rw [← HST.out] at m9
      obtain ⟨A9, c9, rfl, _⟩ := m9.len
      have hk1 : ((txRows t).take (k + 1)).length = k + 1 := by rw [List.length_take, HRW.out]; have := HN.out; omega
      rw [hk1] at m9 hr9
      have HM9 := Lib.hid m9
      clear hk1
      have hl32 := chgSum_len t.id k c
      generalize chgSum t.id k c = h32 at hr9 hl32 ⊢
      clear m2 t2 m9 r5 rg C0 hkk
      go_wp2_with (first
        | (refine wpList_build_hash1 rfl h32 hl32 (.tmp 19) rfl rfl ?_)
        | (at_builtin; refine wpList_append_at rfl (.tmp 14) (.tmp 20) rfl hr9 rfl rfl ?_)
        | fail)
      go_roundw
      case rel => exact ⟨k + 1, A9, c9, by omega, by go_num, rfl, HM9.out⟩
      case measure => (simp [intOf] <;> omega)
    · obtain rfl : k = n := by omega
      rw [List.take_of_length_le (by rw [HRW.out]; have := HN.out; omega)] at m0
      have hRR := Root_any k (txRows t) k (by rw [HRW.out]; exact HN.out.1.symm) (Nat.le_refl _) (by have := HN.out; omega) Au cu wr.heap.size wr
      have RR := Lib.hid (hRR m0.hs (Nat.le_refl _))
      have H2 := Lib.hid t0
      clear m0 t0 hRR
      go_wp2_with fail
      refine RR.out.mono ?_
      rintro e w3 ⟨rfl, t3⟩
      rw [show bvs (mroot (txRows t)) = res from HRES.out.symm]
      have H3 := Lib.hid (H2.out.trans t3 (by simp))
      clear t3 RR
      have hrl : res.length = 32 := by rw [HRES.out, bvs_length]; exact HLEN.out
      have hr1 : ∀ u ∈ res, u.oneCell' = true := by rw [HRES.out]; exact bvs_one _
      have Q_b2 := Lib.hid (H0.out.1.turns H3.out (by simp))
      have Q_l := Lib.hid (show zz.length = res.length by rw [HZL.out, hrl])
      have Q_sz := Lib.hid (show (Tryz.prog.info? 53).map (·.size) = some res.length by rw [size_hash, hrl])
      have Q_1 := Lib.hid hr1
      clear hrl hr1
      go_wp2_with (first
        | (refine wpList_store_blk rfl 53 (.tmp 2) (.tmp 24) rfl w.heap.size (by kernel_rfl) res zz 53 (by kernel_rfl) Q_b2.out Q_l.out Q_sz.out Q_1.out (fun w9 hb9 ht9 hs9 => ?_); have HQ9 := Lib.hid (And.intro hb9 ht9); clear hb9 ht9 hs9)
        | fail)
      refine bodyPost_ret (results_cell_row rfl _ _ w.heap.size _ _ _ _ (by kernel_rfl) HQ9.out.1 Tryz.underlying53 rfl (by rw [List.size_toArray]; exact Q_sz.out)) rfl ?_
      exact ⟨rfl, (HT0.out.trans H3.out (by simp)).trans HQ9.out.2 (by intro x hx; simp at hx; exact .inr (by have := HS0.out; omega))⟩
end Go.Proofs.YtoahnhphfabajaaGreat
