/- The document's sameness of changes and transactions: the same ones are the same. -/
import Derived.Test.YtoahnhphfabajaaGreatLdH
import Derived.Test.YtoahnhphfabajaaGreatGD
namespace Go.Proofs.YtoahnhphfabajaaGreat
open Go.RowKit
set_option linter.unusedVariables false
set_option maxRecDepth 10000
set_option linter.unusedSimpArgs false
set_option linter.unnecessarySimpa false

set_option maxRecDepth 100000 in
set_option maxHeartbeats 8000000 in
theorem SameChange_same (c : Chg) (hc : c.ok) (rv rv' : Value) (w0 : World) (h1 : Sl w0 w0.heap.size 3 rv c.row.length (valCells c.row)) (h2 : Sl w0 w0.heap.size 3 rv' c.row.length (valCells c.row)) :
    Calls Tryz.prog 39 #[.agg #[.string c.table, .int .i64 c.op, rv], .agg #[.string c.table, .int .i64 c.op, rv']] w0 fun e w' => e = .returned (.bool true) ∧ Turns [] w0 w' := by
  obtain ⟨A, cp, rfl, _⟩ := h1.form
  obtain ⟨A', cp', rfl, _⟩ := h2.form
  obtain ⟨l, hl⟩ : ∃ l, l = c.row := ⟨_, rfl⟩
  have hlen : l.length ≤ 100 := by rw [hl]; exact hc.len
  rw [← hl] at h1 h2 ⊢
  obtain ⟨p2, hp2⟩ : ∃ p, p = w0.heap.size := ⟨_, rfl⟩
  obtain ⟨x1, hx1⟩ : ∃ x, x = w0.alloc (.cells #[.string c.table, .int .i64 c.op, .slice A l.length cp] 67) := ⟨_, rfl⟩
  obtain ⟨x2, hx2⟩ : ∃ x, x = x1.alloc (.cells #[.string c.table, .int .i64 c.op, .slice A' l.length cp'] 67) := ⟨_, rfl⟩
  have b2 := Blk.new w0 [.string c.table, .int .i64 c.op, .slice A l.length cp] 67
  rw [show w0.alloc (.cells [.string c.table, .int .i64 c.op, .slice A l.length cp].toArray 67) = x1 from hx1.symm, ← hp2] at b2
  have b3 := Blk.new x1 [.string c.table, .int .i64 c.op, .slice A' l.length cp'] 67
  rw [show x1.alloc (.cells [.string c.table, .int .i64 c.op, .slice A' l.length cp'].toArray 67) = x2 from hx2.symm, show x1.heap.size = p2 + 1 by rw [hx1, hp2]; simp] at b3
  have t1 : Turns [] w0 x1 := by rw [hx1]; exact (Turns.refl _ _).alloc _
  have t2 : Turns [] x1 x2 := by rw [hx2]; exact (Turns.refl _ _).alloc _
  have b22 := b2.turns t2 (by simp)
  have T0 := b22.cell 0
  have T1 := b22.cell 1
  have T2 := b22.cell 2
  have U0 := b3.cell 0
  have U1 := b3.cell 1
  have U2 := b3.cell 2
  simp only [List.getElem?_cons_zero, List.getElem?_cons_succ] at T0 T1 T2 U0 U1 U2
  have HX := Lib.hid (And.intro hx1 (And.intro hx2 hp2))
  have tt := t1.trans t2 (by simp)
  have HT := Lib.hid (And.intro tt (And.intro h1 h2))
  obtain ⟨n, hn⟩ : ∃ n, n = l.length := ⟨_, rfl⟩
  rw [← hn] at T2 U2 hlen
  have HN := Lib.hid hn
  rw [← hn] at HX
  rw [← hn]
  clear hx1 hx2 hp2 b2 b3 t1 t2 b22 tt h1 h2 hn hl hc
  go_enter Tryz.func39, Tryz.ntmps39
  go_upto_region 1 with fail
  rw [← HX.out.1, ← HX.out.2.1, ← HX.out.2.2]
  go_wp2_with fail
  go_loopw [5] (fun i wr => ∃ k : Nat, k ≤ n ∧ i = .int .i64 k ∧ Turns [] x2 wr) (fun i _ => n - (intOf i).toNat)
  case atStart => exact ⟨0, by omega, rfl, Turns.refl _ _⟩
  case round =>
    obtain ⟨k, hk, rfl, tr⟩ := hrel
    have T2r := cellV tr T2
    by_cases hlt : k < n
    · have hki : (k : Int) < (n : Int) := by omega
      have hkl : k < l.length := by have := HN.out; omega
      obtain ⟨b, off, rfl, rg⟩ := val_range HT.out.2.1 k hkl
      obtain ⟨b', off', rfl, rg'⟩ := val_range HT.out.2.2 k hkl
      obtain ⟨Y, hY⟩ : ∃ q, q = wr.drew := ⟨_, rfl⟩
      have tY : Turns [] wr Y := by rw [hY]; exact (Turns.refl _ _).drew
      have HYY := Lib.hid hY
      have t2Y := tr.trans tY (by simp)
      have C2 := cellV t2Y T2
      have D2 := cellV t2Y U2
      have r1 := rangeV (HT.out.1.trans t2Y (by simp)) rg
      have r2 := rangeV (HT.out.1.trans t2Y (by simp)) rg'
      obtain ⟨⟨k1, n1, s1⟩, hc1⟩ : ∃ c, c = l[k] := ⟨_, rfl⟩
      rw [← hc1] at r1 r2
      replace r1 : Y.rangeAt b (off + k * 3) [.int .i64 k1, .int .i64 n1, .string s1] := r1
      replace r2 : Y.rangeAt b' (off' + k * 3) [.int .i64 k1, .int .i64 n1, .string s1] := r2
      have hz1 := size_val k1 n1 s1
      have hr : (!(eqV ⟨k1, n1, s1⟩ ⟨k1, n1, s1⟩)) = false := by rw [(eqV_iff _ _).2 rfl]; rfl
      have HTR := Lib.hid t2Y
      have S0 : Turns [] Y Y := Turns.refl _ _
      clear hY tY t2Y rg rg' hc1 hkl tr
      go_upto_region 6 with fail
      refine rk0 (fun W => Turns [] Y W) (fun _ => True) 11 11 ?_
      rw [← HYY.out]
      refine rkA 0 34 1 (v := ?_) ?_ (.mk' S0 trivial) ?_
      rotate_left
      · intro W hS; go_simp; all_goals with_reducible rfl
      try simp only [sI, sS, sZ]
      refine rkA 1 35 3 (v := ?_) ?_ (.mk' S0 trivial) ?_
      rotate_left
      · intro W hS; have c0 := cellL hS C2 (by simp); go_simp; all_goals with_reducible rfl
      try simp only [sI, sS, sZ]
      refine rkA 2 36 7 (v := ?_) ?_ (.mk' S0 trivial) ?_
      rotate_left
      · intro W hS; go_simp; all_goals with_reducible rfl
      try simp only [sI, sS, sZ]
      refine rkA 3 37 15 (v := ?_) ?_ (.mk' S0 trivial) ?_
      rotate_left
      · intro W hS; go_simp; all_goals with_reducible rfl
      try simp only [sI, sS, sZ]
      refine rkY 4 38 31 rfl (yieldsIf_load_mid (by rfl) _ _ rfl b (off + k * 3) (by rfl) _ _ (fun W hS => rangeV hS r1) Tryz.underlying109 rfl hz1) (.mk' S0 trivial) ?_
      try simp only [sI, sS, sZ]
      refine rkA 5 39 63 (v := ?_) ?_ (.mk' S0 trivial) ?_
      rotate_left
      · intro W hS; go_simp; all_goals with_reducible rfl
      try simp only [sI, sS, sZ]
      refine rkA 6 40 127 (v := ?_) ?_ (.mk' S0 trivial) ?_
      rotate_left
      · intro W hS; have c0 := cellL hS D2 (by simp); go_simp; all_goals with_reducible rfl
      try simp only [sI, sS, sZ]
      refine rkA 7 41 255 (v := ?_) ?_ (.mk' S0 trivial) ?_
      rotate_left
      · intro W hS; go_simp; all_goals with_reducible rfl
      try simp only [sI, sS, sZ]
      refine rkA 8 42 511 (v := ?_) ?_ (.mk' S0 trivial) ?_
      rotate_left
      · intro W hS; go_simp; all_goals with_reducible rfl
      try simp only [sI, sS, sZ]
      refine rkY 9 43 1023 rfl (yieldsIf_load_mid (by rfl) _ _ rfl b' (off' + k * 3) (by rfl) _ _ (fun W hS => rangeV hS r2) Tryz.underlying109 rfl hz1) (.mk' S0 trivial) ?_
      try simp only [sI, sS, sZ]
      refine rkY 10 44 2047 rfl (yields_neqVb (by rfl) _ _ _ rfl ⟨k1, n1, s1⟩ ⟨k1, n1, s1⟩ false hr (by rfl) (by rfl)) (.mk' S0 trivial) ?_
      try simp only [sI, sS, sZ]
      refine rkZ ?_
      clear C2 D2 r1 r2 S0 T2r
      go_wp2_with fail
      go_roundw
      case rel => exact ⟨k + 1, by omega, by go_num, HTR.out⟩
      case measure => (simp [intOf] <;> omega)
    · obtain rfl : n = k := by omega
      have HTR := Lib.hid (HT.out.1.trans tr (by simp))
      clear tr hk hlt
      go_wp2_with fail
      go_ret
      exact ⟨rfl, HTR.out⟩
set_option maxRecDepth 100000 in
set_option maxHeartbeats 8000000 in
theorem SameTxs_same (l : List Txn) (hl : l.length ≤ 1000) (ha : ∀ t ∈ l, t.ok) (v v' : Value) (S S' : Nat → Prop) (w0 : World) (hd : Deep TxR w0 S 2 v l) (hd' : Deep TxR w0 S' 2 v' l) :
    Calls Tryz.prog 15 #[v, v'] w0 fun e w' => e = .returned (.bool true) ∧ Turns [] w0 w' := by
  obtain ⟨A, c, rfl, _⟩ := hd.form
  obtain ⟨A', c', rfl, _⟩ := hd'.form
  obtain ⟨n, hn⟩ : ∃ n, n = l.length := ⟨_, rfl⟩
  have HN := Lib.hid hn
  have HD := Lib.hid (And.intro hd (And.intro hd' ha))
  rw [← hn] at hl ⊢
  clear hd hd' ha hn
  go_enter Tryz.func15, Tryz.ntmps15
  go_wp2_with fail
  go_loopw [5] (fun u wr => ∃ i : Nat, i ≤ n ∧ u = .int .i64 i ∧ Turns [] w0 wr) (fun u _ => n - (intOf u).toNat)
  case atStart => exact ⟨0, by omega, rfl, Turns.refl _ _⟩
  case round =>
    rename World => wr
    obtain ⟨i, hi, rfl, tr⟩ := hrel
    by_cases hlt : i < n
    · have hii : (i : Int) < (n : Int) := by omega
      have hil : i < l.length := by have := HN.out; omega
      obtain ⟨b, off, c1, cs, hv, _, _, _, rg, hR⟩ := (HD.out.1.keep TxR.lasts (tr.keeps0 _)).at_ (by omega) i hil
      injection hv with e1 e2 e3
      subst e1 e3
      clear e2
      obtain ⟨b', off', c1', cs', hv', _, _, _, rg', hR'⟩ := (HD.out.2.1.keep TxR.lasts (tr.keeps0 _)).at_ (by omega) i hil
      injection hv' with e1 e2 e3
      subst e1 e3
      clear e2
      have hto := HD.out.2.2 _ (List.getElem_mem hil)
      obtain ⟨t, ht⟩ : ∃ x, x = l[i] := ⟨_, rfl⟩
      rw [← ht] at hR hR' hto
      obtain ⟨cv, rfl, dc⟩ := hR
      obtain ⟨cv', rfl, dc'⟩ := hR'
      obtain ⟨Ac, cc, rfl, _⟩ := dc.form
      obtain ⟨Ac', cc', rfl, _⟩ := dc'.form
      obtain ⟨m, hm⟩ : ∃ n, n = t.chs.length := ⟨_, rfl⟩
      rw [← hm] at rg rg'
      have hm9 : m ≤ 1000 := by rw [hm]; exact hto.len
      have i1 := rg 0 _ rfl
      have l1 := rg 1 _ rfl
      have i2 := rg' 0 _ rfl
      have l2 := rg' 1 _ rfl
      rw [Nat.add_zero] at i1 i2
      obtain ⟨Y, hY⟩ : ∃ q, q = wr.drew := ⟨_, rfl⟩
      have tY : Turns [] wr Y := by rw [hY]; exact (Turns.refl _ _).drew
      have HYY := Lib.hid hY
      have I1 := cellV tY i1
      have I2 := cellV tY i2
      have L1 := cellV tY l1
      have L2 := cellV tY l2
      have HT := Lib.hid (And.intro (tr.trans tY (by simp)) (And.intro tY (And.intro dc (And.intro dc' (And.intro hto hm)))))
      have S0 : Turns [] Y Y := Turns.refl _ _
      clear rg rg' hY tY tr dc dc' hto ht hm hil i1 i2 l1 l2
      go_upto_region 6 with fail
      refine rk0 (fun W => Turns [] Y W) (fun _ => True) 26 26 ?_
      rw [← HYY.out]
      refine rkA 0 18 1 (v := ?_) ?_ (.mk' S0 trivial) ?_
      rotate_left
      · intro W hS; go_simp; all_goals with_reducible rfl
      try simp only [sI, sS, sZ]
      refine rkA 1 19 3 (v := ?_) ?_ (.mk' S0 trivial) ?_
      rotate_left
      · intro W hS; go_simp; all_goals with_reducible rfl
      try simp only [sI, sS, sZ]
      refine rkA 2 20 7 (v := ?_) ?_ (.mk' S0 trivial) ?_
      rotate_left
      · intro W hS; go_simp; all_goals with_reducible rfl
      try simp only [sI, sS, sZ]
      refine rkA 3 21 15 (v := ?_) ?_ (.mk' S0 trivial) ?_
      rotate_left
      · intro W hS; go_simp; all_goals with_reducible rfl
      try simp only [sI, sS, sZ]
      refine rkA 4 22 31 (v := ?_) ?_ (.mk' S0 trivial) ?_
      rotate_left
      · intro W hS; have c0 := cellL hS I1 (by simp); go_simp; all_goals with_reducible rfl
      try simp only [sI, sS, sZ]
      refine rkA 5 23 63 (v := ?_) ?_ (.mk' S0 trivial) ?_
      rotate_left
      · intro W hS; go_simp; all_goals with_reducible rfl
      try simp only [sI, sS, sZ]
      refine rkA 6 24 127 (v := ?_) ?_ (.mk' S0 trivial) ?_
      rotate_left
      · intro W hS; go_simp; all_goals with_reducible rfl
      try simp only [sI, sS, sZ]
      refine rkA 7 25 255 (v := ?_) ?_ (.mk' S0 trivial) ?_
      rotate_left
      · intro W hS; go_simp; all_goals with_reducible rfl
      try simp only [sI, sS, sZ]
      refine rkA 8 26 511 (v := ?_) ?_ (.mk' S0 trivial) ?_
      rotate_left
      · intro W hS; go_simp; all_goals with_reducible rfl
      try simp only [sI, sS, sZ]
      refine rkA 9 27 1023 (v := ?_) ?_ (.mk' S0 trivial) ?_
      rotate_left
      · intro W hS; have c0 := cellL hS I2 (by simp); go_simp; all_goals with_reducible rfl
      try simp only [sI, sS, sZ]
      refine rkA 10 28 2047 (v := ?_) ?_ (.mk' S0 trivial) ?_
      rotate_left
      · intro W hS; go_simp; all_goals with_reducible rfl
      try simp only [sI, sS, sZ]
      refine rkA 11 29 4095 (v := ?_) ?_ (.mk' S0 trivial) ?_
      rotate_left
      · intro W hS; go_simp; all_goals with_reducible rfl
      try simp only [sI, sS, sZ]
      refine rkA 12 30 8191 (v := ?_) ?_ (.mk' S0 trivial) ?_
      rotate_left
      · intro W hS; go_simp; all_goals with_reducible rfl
      try simp only [sI, sS, sZ]
      refine rkA 13 31 16383 (v := ?_) ?_ (.mk' S0 trivial) ?_
      rotate_left
      · intro W hS; go_simp; all_goals with_reducible rfl
      try simp only [sI, sS, sZ]
      refine rkA 14 32 32767 (v := ?_) ?_ (.mk' S0 trivial) ?_
      rotate_left
      · intro W hS; go_simp; all_goals with_reducible rfl
      try simp only [sI, sS, sZ]
      refine rkA 15 33 65535 (v := ?_) ?_ (.mk' S0 trivial) ?_
      rotate_left
      · intro W hS; go_simp; all_goals with_reducible rfl
      try simp only [sI, sS, sZ]
      refine rkA 16 34 131071 (v := ?_) ?_ (.mk' S0 trivial) ?_
      rotate_left
      · intro W hS; have c0 := cellL hS L1 (by simp); go_simp; all_goals with_reducible rfl
      try simp only [sI, sS, sZ]
      refine rkA 17 35 262143 (v := ?_) ?_ (.mk' S0 trivial) ?_
      rotate_left
      · intro W hS; go_simp; all_goals with_reducible rfl
      try simp only [sI, sS, sZ]
      refine rkA 18 36 524287 (v := ?_) ?_ (.mk' S0 trivial) ?_
      rotate_left
      · intro W hS; go_simp; all_goals with_reducible rfl
      try simp only [sI, sS, sZ]
      refine rkA 19 37 1048575 (v := ?_) ?_ (.mk' S0 trivial) ?_
      rotate_left
      · intro W hS; go_simp; all_goals with_reducible rfl
      try simp only [sI, sS, sZ]
      refine rkA 20 38 2097151 (v := ?_) ?_ (.mk' S0 trivial) ?_
      rotate_left
      · intro W hS; go_simp; all_goals with_reducible rfl
      try simp only [sI, sS, sZ]
      refine rkA 21 39 4194303 (v := ?_) ?_ (.mk' S0 trivial) ?_
      rotate_left
      · intro W hS; go_simp; all_goals with_reducible rfl
      try simp only [sI, sS, sZ]
      refine rkA 22 40 8388607 (v := ?_) ?_ (.mk' S0 trivial) ?_
      rotate_left
      · intro W hS; have c0 := cellL hS L2 (by simp); go_simp; all_goals with_reducible rfl
      try simp only [sI, sS, sZ]
      refine rkA 23 41 16777215 (v := ?_) ?_ (.mk' S0 trivial) ?_
      rotate_left
      · intro W hS; go_simp; all_goals with_reducible rfl
      try simp only [sI, sS, sZ]
      refine rkA 24 42 33554431 (v := ?_) ?_ (.mk' S0 trivial) ?_
      rotate_left
      · intro W hS; go_simp; all_goals with_reducible rfl
      try simp only [sI, sS, sZ]
      refine rkA 25 43 67108863 (v := ?_) ?_ (.mk' S0 trivial) ?_
      rotate_left
      · intro W hS; go_simp; all_goals with_reducible rfl
      try simp only [sI, sS, sZ]
      refine rkZ ?_
      clear I1 I2 S0
      go_wp2_with fail
      go_loopw [6] (fun u wr => ∃ k : Nat, k ≤ m ∧ u = .int .i64 k ∧ Turns [] Y wr) (fun u _ => m - (intOf u).toNat)
      case atStart => exact ⟨0, by omega, rfl, Turns.refl _ _⟩
      case round =>
        rename World => wk
        obtain ⟨k, hk, rfl, tk⟩ := hrel
        have l1 := cellV tk L1
        have l2 := cellV tk L2
        by_cases hltk : k < m
        · have hki : (k : Int) < (m : Int) := by omega
          have hkl : k < t.chs.length := by have := HT.out.2.2.2.2.2; omega
          obtain ⟨Z, hZ⟩ : ∃ q, q = wk.drew := ⟨_, rfl⟩
          have tZ : Turns [] wk Z := by rw [hZ]; exact (Turns.refl _ _).drew
          have HZZ := Lib.hid hZ
          have tYZ := tk.trans tZ (by simp)
          have twZ := HT.out.2.1.trans tYZ (by simp)
          obtain ⟨bc, offc, c3, cs3, hv3, _, _, _, r1, hC⟩ := (HT.out.2.2.1.keep ChgR.lasts (twZ.keeps0 _)).at_ (by omega) k hkl
          injection hv3 with e1 e2 e3
          subst e1 e3
          clear e2
          obtain ⟨bc', offc', c4, cs4, hv4, _, _, _, r2, hC'⟩ := (HT.out.2.2.2.1.keep ChgR.lasts (twZ.keeps0 _)).at_ (by omega) k hkl
          injection hv4 with e1 e2 e3
          subst e1 e3
          clear e2
          have hco := HT.out.2.2.2.2.1.chs _ (List.getElem_mem hkl)
          obtain ⟨x, hx⟩ : ∃ x, x = t.chs[k] := ⟨_, rfl⟩
          rw [← hx] at hC hC' hco
          obtain ⟨rv, rfl, hs1⟩ := hC
          obtain ⟨rv', rfl, hs2⟩ := hC'
          obtain ⟨Ar, cr, rfl, _⟩ := hs1.form'
          obtain ⟨Ar', cr', rfl, _⟩ := hs2.form'
          have hz1 := size_chg x.table x.op (.slice Ar x.row.length cr)
          have hz2 := size_chg x.table x.op (.slice Ar' x.row.length cr')
          have L1 := cellV tYZ L1
          have L2 := cellV tYZ L2
          have SC := Lib.hid (SameChange_same x hco _ _ Z hs1.sl hs2.sl)
          have HTZ := Lib.hid tYZ
          have S0 : Turns [] Z Z := Turns.refl _ _
          clear hZ tZ tYZ twZ tk hs1 hs2 hco hx hkl
          go_upto_region 11 with fail
          refine rk0 (fun W => Turns [] Z W) (fun _ => True) 18 18 ?_
          rw [← HZZ.out]
          refine rkA 0 54 1 (v := ?_) ?_ (.mk' S0 trivial) ?_
          rotate_left
          · intro W hS; go_simp; all_goals with_reducible rfl
          try simp only [sI, sS, sZ]
          refine rkA 1 55 3 (v := ?_) ?_ (.mk' S0 trivial) ?_
          rotate_left
          · intro W hS; go_simp; all_goals with_reducible rfl
          try simp only [sI, sS, sZ]
          refine rkA 2 56 7 (v := ?_) ?_ (.mk' S0 trivial) ?_
          rotate_left
          · intro W hS; go_simp; all_goals with_reducible rfl
          try simp only [sI, sS, sZ]
          refine rkA 3 57 15 (v := ?_) ?_ (.mk' S0 trivial) ?_
          rotate_left
          · intro W hS; go_simp; all_goals with_reducible rfl
          try simp only [sI, sS, sZ]
          refine rkA 4 58 31 (v := ?_) ?_ (.mk' S0 trivial) ?_
          rotate_left
          · intro W hS; have c0 := cellL hS L1 (by simp); go_simp; all_goals with_reducible rfl
          try simp only [sI, sS, sZ]
          refine rkA 5 59 63 (v := ?_) ?_ (.mk' S0 trivial) ?_
          rotate_left
          · intro W hS; go_simp; all_goals with_reducible rfl
          try simp only [sI, sS, sZ]
          refine rkA 6 60 127 (v := ?_) ?_ (.mk' S0 trivial) ?_
          rotate_left
          · intro W hS; go_simp; all_goals with_reducible rfl
          try simp only [sI, sS, sZ]
          refine rkY 7 61 255 rfl (yieldsIf_load_mid (by rfl) _ _ rfl bc (offc + k * 3) (by rfl) _ _ (fun W hS => rangeV hS r1) Tryz.underlying67 rfl hz1) (.mk' S0 trivial) ?_
          try simp only [sI, sS, sZ]
          refine rkA 8 62 511 (v := ?_) ?_ (.mk' S0 trivial) ?_
          rotate_left
          · intro W hS; go_simp; all_goals with_reducible rfl
          try simp only [sI, sS, sZ]
          refine rkA 9 63 1023 (v := ?_) ?_ (.mk' S0 trivial) ?_
          rotate_left
          · intro W hS; go_simp; all_goals with_reducible rfl
          try simp only [sI, sS, sZ]
          refine rkA 10 64 2047 (v := ?_) ?_ (.mk' S0 trivial) ?_
          rotate_left
          · intro W hS; go_simp; all_goals with_reducible rfl
          try simp only [sI, sS, sZ]
          refine rkA 11 65 4095 (v := ?_) ?_ (.mk' S0 trivial) ?_
          rotate_left
          · intro W hS; go_simp; all_goals with_reducible rfl
          try simp only [sI, sS, sZ]
          refine rkA 12 66 8191 (v := ?_) ?_ (.mk' S0 trivial) ?_
          rotate_left
          · intro W hS; have c0 := cellL hS L2 (by simp); go_simp; all_goals with_reducible rfl
          try simp only [sI, sS, sZ]
          refine rkA 13 67 16383 (v := ?_) ?_ (.mk' S0 trivial) ?_
          rotate_left
          · intro W hS; go_simp; all_goals with_reducible rfl
          try simp only [sI, sS, sZ]
          refine rkA 14 68 32767 (v := ?_) ?_ (.mk' S0 trivial) ?_
          rotate_left
          · intro W hS; go_simp; all_goals with_reducible rfl
          try simp only [sI, sS, sZ]
          refine rkY 15 69 65535 rfl (yieldsIf_load_mid (by rfl) _ _ rfl bc' (offc' + k * 3) (by rfl) _ _ (fun W hS => rangeV hS r2) Tryz.underlying67 rfl hz2) (.mk' S0 trivial) ?_
          try simp only [sI, sS, sZ]
          refine rk1 16 131071 (fun K hK => ?_)
          go_simp
          refine (SC.out).mono ?_
          rintro e X70 ⟨rfl, D70⟩
          refine hK _ _ (.mk' ((Turns.refl [] Z).trans D70 (by simp)) trivial) ?_
          clear hK K
          try simp only [sI, sS, sZ]
          refine rkA 17 71 262143 (v := ?_) ?_ (.mk' ((Turns.refl [] Z).trans D70 (by simp)) trivial) ?_
          rotate_left
          · intro W hS; go_simp; all_goals with_reducible rfl
          try simp only [sI, sS, sZ]
          refine rkZ ?_
          have HE := Lib.hid (HTZ.out.trans ((Turns.refl [] Z).trans D70 (by simp)) (by simp))
          clear L1 L2 r1 r2 S0 l1 l2
          go_wp2_with fail
          go_roundw
          case rel => exact ⟨k + 1, by omega, by go_num, HE.out⟩
          case measure => (simp [intOf] <;> omega)
        · obtain rfl : m = k := by omega
          have HE := Lib.hid (HT.out.1.trans tk (by simp))
          clear tk hk hltk
          go_wp2_with fail
          go_roundw
          case rel => exact ⟨i + 1, by omega, by go_num, HE.out⟩
          case measure => (simp [intOf] <;> omega)
    · obtain rfl : n = i := by omega
      have HE := Lib.hid tr
      clear tr hi hlt
      go_wp2_with fail
      go_ret
      exact ⟨rfl, HE.out⟩
end Go.Proofs.YtoahnhphfabajaaGreat
