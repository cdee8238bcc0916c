/- The code's sameness of blocks and ledgers: the same ones are the same. -/
import Derived.Test.YtoahnhphfabajaaGreatGs1
import Derived.Test.YtoahnhphfabajaaGreatNdk
namespace Go.Proofs.YtoahnhphfabajaaGreat
open Go.RowKit
set_option linter.unusedVariables false
set_option maxRecDepth 10000
set_option linter.unusedSimpArgs false
set_option linter.unnecessarySimpa false

theorem blo_parts4 {w : World} {b o : Nat} {x : Blo} (hx : x.ok) (h : w.rangeAt b o x.cells) : w.cell? ⟨b, o, none⟩ = some (.int .i64 x.n) ∧ w.rangeAt b (o + 1) (bvs x.prev) ∧ w.rangeAt b (o + 33) (bvs x.root) ∧ w.cell? ⟨b, o + 65, none⟩ = some (.int .i64 x.cnt) :=
  ⟨h 0 _ rfl, fun i v hv => by rw [Nat.add_assoc]; exact h _ v (Blo.getP hx i v hv), fun i v hv => by rw [Nat.add_assoc]; exact h _ v (Blo.getR hx i v hv), h 65 _ (Blo.get65 hx)⟩
set_option maxRecDepth 100000 in
set_option maxHeartbeats 4000000 in
theorem sameBlock_same (b : Blo) (hb : b.ok) (w0 : World) :
    Calls Tryz.prog 42 #[.agg b.cells.toArray, .agg b.cells.toArray] w0 fun e w' => e = .returned (.bool true) ∧ Turns [] w0 w' := by
  obtain ⟨cs, hcs⟩ : ∃ c, c = b.cells := ⟨_, rfl⟩
  rw [← hcs]
  obtain ⟨p2, hp2⟩ : ∃ p, p = w0.heap.size := ⟨_, rfl⟩
  obtain ⟨x1, hx1⟩ : ∃ x, x = w0.alloc (.cells cs.toArray 70) := ⟨_, rfl⟩
  obtain ⟨x2, hx2⟩ : ∃ x, x = x1.alloc (.cells cs.toArray 70) := ⟨_, rfl⟩
  have b2 := Blk.new w0 cs 70
  rw [← hx1, ← hp2] at b2
  have b3 := Blk.new x1 cs 70
  have hs1 : x1.heap.size = p2 + 1 := by rw [hx1, hp2]; simp
  rw [← hx2, hs1] at b3
  have t1 : Turns [] w0 x1 := by rw [hx1]; exact (Turns.refl _ _).alloc _
  have t2 : Turns [] x1 x2 := by rw [hx2]; exact (Turns.refl _ _).alloc _
  have r2 := (b2.turns t2 (by simp)).all
  have r3 := b3.all
  rw [hcs] at r2 r3
  obtain ⟨N1, P1, Q1, M1⟩ := blo_parts4 hb r2
  obtain ⟨N2, P2, Q2, M2⟩ := blo_parts4 hb r3
  have eqp := eqlS b.prev hb.prev
  have eqr := eqlS b.root hb.root
  have hzp : (Tryz.prog.info? 53).map (·.size) = some (bvs b.prev).length := by rw [size_hash, bvs_length, hb.prev]
  have hzr : (Tryz.prog.info? 53).map (·.size) = some (bvs b.root).length := by rw [size_hash, bvs_length, hb.root]
  have HX := Lib.hid (And.intro hx1 (And.intro hx2 hp2))
  have HT := Lib.hid (t1.trans t2 (by simp))
  rw [Nat.zero_add] at P1 P2 Q1 Q2 M1 M2
  clear hcs hp2 hx1 hx2 b2 b3 hs1 t1 t2 r2 r3
  go_enter Tryz.func42, Tryz.ntmps42
  go_upto_region 1 with fail
  rw [← HX.out.1, ← HX.out.2.1, ← HX.out.2.2]
  go_wp2_with (first
    | (refine wpList_load_g (by rfl) 53 (.tmp 11) rfl p2 1 rfl _ _ P1 Tryz.underlying53 rfl hzp ?_)
    | (refine wpList_load_g (by rfl) 53 (.tmp 13) rfl (p2 + 1) 1 rfl _ _ P2 Tryz.underlying53 rfl hzp ?_)
    | (refine wpList_load_g (by rfl) 53 (.tmp 18) rfl p2 33 rfl _ _ Q1 Tryz.underlying53 rfl hzr ?_)
    | (refine wpList_load_g (by rfl) 53 (.tmp 20) rfl (p2 + 1) 33 rfl _ _ Q2 Tryz.underlying53 rfl hzr ?_)
    | fail)
  go_ret
  exact ⟨rfl, HT.out⟩
set_option maxRecDepth 100000 in
set_option maxHeartbeats 8000000 in
theorem EqF_blk (l : List Blo) (hl : l.length ≤ 100000) (ha : ∀ x ∈ l, x.ok) (v v' : Value) (S S' : Nat → Prop) (w0 : World) (hd : SlS w0 S 66 v l.length (bloCells l)) (hd' : SlS w0 S' 66 v' l.length (bloCells l)) :
    Calls Tryz.prog 41 #[v, v', .func (.func 42) #[] #[]] w0 fun e w' => e = .returned (.bool true) ∧ Turns [] w0 w' := by
  obtain ⟨A, c, rfl, _⟩ := hd.form'
  obtain ⟨A', c', rfl, _⟩ := hd'.form'
  obtain ⟨n, hn⟩ : ∃ n, n = l.length := ⟨_, rfl⟩
  have HN := Lib.hid hn
  have HD := Lib.hid (And.intro hd (And.intro hd' ha))
  obtain ⟨zz, hzz⟩ : ∃ z, z = blo0.cells := ⟨_, rfl⟩
  have hzb : (Tryz.prog.info? 70).bind (·.zero) = some (.agg zz.toArray) := by rw [hzz]; kernel_rfl
  have HZL := Lib.hid (show zz.length = 66 by rw [hzz]; exact Blo.cells_len blo0_ok)
  rw [← hn] at hl ⊢
  clear hd hd' ha hn hzz
  go_enter Tryz.func41, Tryz.ntmps41
  go_wp2_with fail
  go_loopw [17] (fun u wr => ∃ i : Nat, i ≤ n ∧ u = .int .i64 i ∧ Turns [] w0 wr) (fun u _ => n - (intOf u).toNat)
  case atStart => exact ⟨0, by omega, rfl, Turns.refl _ _⟩
  case round =>
    rename World => wr
    obtain ⟨i, hi, rfl, tr⟩ := hrel
    by_cases hlt : i < n
    · have hii : (i : Int) < (n : Int) := by omega
      have hil : i < l.length := by have := HN.out; omega
      obtain ⟨b, off, c1, hv, _, _, rg⟩ := blo_at (HD.out.1.keep (tr.keeps0 _)) HD.out.2.2 i hil
      injection hv with e1 e2 e3
      subst e1 e3
      clear e2
      obtain ⟨b', off', c1', hv', _, _, rg'⟩ := blo_at (HD.out.2.1.keep (tr.keeps0 _)) HD.out.2.2 i hil
      injection hv' with e1 e2 e3
      subst e1 e3
      clear e2
      have hxo := HD.out.2.2 _ (List.getElem_mem hil)
      obtain ⟨x, hx⟩ : ∃ x, x = l[i] := ⟨_, rfl⟩
      rw [← hx] at rg rg' hxo
      have SB := fun W => sameBlock_same x hxo W
      have hcl : x.cells.length = 66 := Blo.cells_len hxo
      have hc1 := Blo.cells_one x
      generalize x.cells = cs at rg rg' SB hcl hc1
      have hz1 := size_blo cs hcl
      have HSB := Lib.hid SB
      have HCL := Lib.hid (And.intro (show zz.length = cs.length by rw [HZL.out, hcl]) hc1)
      have HB8 := Lib.hid (And.intro (Blk.new wr zz 70) ((Turns.refl [] wr).alloc (.cells zz.toArray 70)))
      have HTR := Lib.hid tr
      clear SB hx hxo hil tr hc1
      go_upto_region 6 with (first
        | (refine wpList_load_mid rfl 70 (.tmp 20) rfl b (off + i * 66) rfl _ _ rg Tryz.underlying70 rfl hz1 ?_)
        | (refine wpList_alloc_arr (o := ⟨some 8, _, _, _, _, _⟩) rfl 70 rfl zz.toArray hzb ?_)
        | (refine wpList_store_blk rfl 70 (.tmp 8) (.tmp 21) rfl wr.heap.size (by kernel_rfl) cs zz 70 (by kernel_rfl) HB8.out.1 HCL.out.1 hz1 HCL.out.2 (fun w8 hb8 ht8 hs8 => ?_); have HQ8 := Lib.hid (And.intro hb8 ht8); clear hb8 ht8 hs8)
        | fail)
      try simp only [Act.put, List.setIfInBounds_toArray, List.set_cons_succ, List.set_cons_zero]
      obtain ⟨p8, hp8⟩ : ∃ q, q = wr.heap.size := ⟨_, rfl⟩
      rw [← hp8] at HQ8 ⊢
      have tr8 : Turns [] wr w8 := HB8.out.2.trans HQ8.out.2 (by intro y hy; simp at hy; exact .inr (by omega))
      have rg2 := rangeV tr8 rg'
      have HB9 := Lib.hid (And.intro (Blk.new w8 zz 70) ((Turns.refl [] w8).alloc (.cells zz.toArray 70)))
      have HT8 := Lib.hid tr8
      clear rg rg' tr8 hp8
      go_upto_region 7 with (first
        | (refine wpList_load_mid rfl 70 (.tmp 24) rfl b' (off' + i * 66) rfl _ _ rg2 Tryz.underlying70 rfl hz1 ?_)
        | (refine wpList_alloc_arr (o := ⟨some 9, _, _, _, _, _⟩) rfl 70 rfl zz.toArray hzb ?_)
        | (refine wpList_store_blk rfl 70 (.tmp 9) (.tmp 25) rfl w8.heap.size (by kernel_rfl) cs zz 70 (by kernel_rfl) HB9.out.1 HCL.out.1 hz1 HCL.out.2 (fun w9 hb9 ht9 hs9 => ?_); have HQ9 := Lib.hid (And.intro hb9 ht9); clear hb9 ht9 hs9)
        | fail)
      try simp only [Act.put, List.setIfInBounds_toArray, List.set_cons_succ, List.set_cons_zero]
      obtain ⟨p9, hp9⟩ : ∃ q, q = w8.heap.size := ⟨_, rfl⟩
      rw [← hp9] at HQ9 ⊢
      have tr9 : Turns [] w8 w9 := HB9.out.2.trans HQ9.out.2 (by intro y hy; simp at hy; exact .inr (by omega))
      have r8 := (HQ8.out.1.turns tr9 (by simp)).all
      have r9 := HQ9.out.1.all
      have HT9 := Lib.hid ((HTR.out.trans HT8.out (by simp)).trans tr9 (by simp))
      clear tr9 rg2 hp9
      go_wp2_with (first
        | (refine wpList_load_mid rfl 70 (.tmp 8) rfl p8 0 rfl _ _ r8 Tryz.underlying70 rfl hz1 ?_)
        | (refine wpList_load_mid rfl 70 (.tmp 9) rfl p9 0 rfl _ _ r9 Tryz.underlying70 rfl hz1 ?_)
        | fail)
      refine (HSB.out w9).mono ?_
      rintro e X3 ⟨rfl, t3⟩
      have HT3 := Lib.hid (HT9.out.trans t3 (by simp))
      clear t3 r8 r9
      go_wp2_with fail
      go_roundw
      case rel => exact ⟨i + 1, by omega, by go_num, HT3.out⟩
      case measure => (simp [intOf] <;> omega)
    · obtain rfl : n = i := by omega
      have HE := Lib.hid tr
      clear tr hi hlt
      go_wp2_with fail
      go_ret
      exact ⟨rfl, HE.out⟩
set_option maxRecDepth 100000 in
set_option maxHeartbeats 8000000 in
theorem EqF_txs (l : List (List Txn)) (hl : l.length ≤ 100000) (ha : ∀ x ∈ l, x.length ≤ 1000 ∧ ∀ t ∈ x, t.ok) (v v' : Value) (S S' : Nat → Prop) (w0 : World) (hd : Deep TxsR w0 S 1 v l) (hd' : Deep TxsR w0 S' 1 v' l) :
    Calls Tryz.prog 43 #[v, v', .func (.func 40) #[] #[]] w0 fun e w' => e = .returned (.bool true) ∧ Turns [] w0 w' := by
  obtain ⟨A, c, rfl, _⟩ := hd.form
  obtain ⟨A', c', rfl, _⟩ := hd'.form
  obtain ⟨n, hn⟩ : ∃ n, n = l.length := ⟨_, rfl⟩
  have HN := Lib.hid hn
  have HD := Lib.hid (And.intro hd (And.intro hd' ha))
  rw [← hn] at hl ⊢
  clear hd hd' ha hn
  go_enter Tryz.func43, Tryz.ntmps43
  go_wp2_with fail
  go_loopw [17] (fun u wr => ∃ i : Nat, i ≤ n ∧ u = .int .i64 i ∧ Turns [] w0 wr) (fun u _ => n - (intOf u).toNat)
  case atStart => exact ⟨0, by omega, rfl, Turns.refl _ _⟩
  case round =>
    rename World => wr
    obtain ⟨i, hi, rfl, tr⟩ := hrel
    by_cases hlt : i < n
    · have hii : (i : Int) < (n : Int) := by omega
      have hil : i < l.length := by have := HN.out; omega
      obtain ⟨b, off, c1, cs, hv, _, _, _, rg, hR⟩ := (HD.out.1.keep TxsR.lasts (tr.keeps0 _)).at_ (by omega) i hil
      injection hv with e1 e2 e3
      subst e1 e3
      clear e2
      obtain ⟨b', off', c1', cs', hv', _, _, _, rg', hR'⟩ := (HD.out.2.1.keep TxsR.lasts (tr.keeps0 _)).at_ (by omega) i hil
      injection hv' with e1 e2 e3
      subst e1 e3
      clear e2
      have hxo := HD.out.2.2 _ (List.getElem_mem hil)
      obtain ⟨x, hx⟩ : ∃ x, x = l[i] := ⟨_, rfl⟩
      rw [← hx] at hR hR' hxo
      obtain ⟨vx, rfl, hs⟩ := hR
      obtain ⟨vx', rfl, hs'⟩ := hR'
      obtain ⟨Ax, cx, rfl, _⟩ := hs.form
      obtain ⟨Ax', cx', rfl, _⟩ := hs'.form
      have q1 := rg 0 _ rfl
      have q2 := rg' 0 _ rfl
      rw [Nat.add_zero, Nat.mul_one] at q1 q2
      have CS := Lib.hid (sameTxs_same x hxo.1 hxo.2 _ _ _ _ wr hs hs')
      have HT := Lib.hid tr
      clear tr rg rg' hx hxo hil hs hs'
      go_wp2_with fail
      refine CS.out.mono ?_
      rintro e X3 ⟨rfl, t3⟩
      have HT3 := Lib.hid (HT.out.trans t3 (by simp))
      clear t3 CS q1 q2
      go_wp2_with fail
      go_roundw
      case rel => exact ⟨i + 1, by omega, by go_num, HT3.out⟩
      case measure => (simp [intOf] <;> omega)
    · obtain rfl : n = i := by omega
      have HE := Lib.hid tr
      clear tr hi hlt
      go_wp2_with fail
      go_ret
      exact ⟨rfl, HE.out⟩
set_option maxRecDepth 100000 in
set_option maxHeartbeats 8000000 in
theorem Same_same (L : Led) (hL : L.ok) (ov bv tv ov' bv' tv' : Value) (S S' : Nat → Prop) (w0 : World) (hd : LedR w0 S ov bv tv L) (hd' : LedR w0 S' ov' bv' tv' L) :
    Calls Tryz.prog 19 #[.agg #[.int .i64 L.next, ov, bv, tv], .agg #[.int .i64 L.next, ov', bv', tv']] w0 fun e w' => e = .returned (.bool true) ∧ Turns [] w0 w' := by
  obtain ⟨Ao, co, rfl, _⟩ := hd.opn.form
  obtain ⟨Ab, cb, rfl, _⟩ := hd.blks.form'
  obtain ⟨At, ct, rfl, _⟩ := hd.txs.form
  obtain ⟨Ao', co', rfl, _⟩ := hd'.opn.form
  obtain ⟨Ab', cb', rfl, _⟩ := hd'.blks.form'
  obtain ⟨At', ct', rfl, _⟩ := hd'.txs.form
  obtain ⟨p2, hp2⟩ : ∃ p, p = w0.heap.size := ⟨_, rfl⟩
  obtain ⟨x1, hx1⟩ : ∃ x, x = w0.alloc (.cells #[.int .i64 L.next, .slice Ao L.opn.length co, .slice Ab L.blks.length cb, .slice At L.txs.length ct] 29) := ⟨_, rfl⟩
  obtain ⟨x2, hx2⟩ : ∃ x, x = x1.alloc (.cells #[.int .i64 L.next, .slice Ao' L.opn.length co', .slice Ab' L.blks.length cb', .slice At' L.txs.length ct'] 29) := ⟨_, rfl⟩
  have b2 := Blk.new w0 [.int .i64 L.next, .slice Ao L.opn.length co, .slice Ab L.blks.length cb, .slice At L.txs.length ct] 29
  rw [show w0.alloc (.cells [.int .i64 L.next, .slice Ao L.opn.length co, .slice Ab L.blks.length cb, .slice At L.txs.length ct].toArray 29) = x1 from hx1.symm, ← hp2] at b2
  have b3 := Blk.new x1 [.int .i64 L.next, .slice Ao' L.opn.length co', .slice Ab' L.blks.length cb', .slice At' L.txs.length ct'] 29
  rw [show x1.alloc (.cells [.int .i64 L.next, .slice Ao' L.opn.length co', .slice Ab' L.blks.length cb', .slice At' L.txs.length ct'].toArray 29) = x2 from hx2.symm, show x1.heap.size = p2 + 1 by rw [hx1, hp2]; simp] at b3
  have t1 : Turns [] w0 x1 := by rw [hx1]; exact (Turns.refl _ _).alloc _
  have t2 : Turns [] x1 x2 := by rw [hx2]; exact (Turns.refl _ _).alloc _
  have b22 := b2.turns t2 (by simp)
  have HX := Lib.hid (And.intro hx1 (And.intro hx2 hp2))
  have tt := t1.trans t2 (by simp)
  have T0 := b22.cell 0
  have T1 := b22.cell 1
  have T2 := b22.cell 2
  have T3 := b22.cell 3
  have U0 := b3.cell 0
  have U1 := b3.cell 1
  have U2 := b3.cell 2
  have U3 := b3.cell 3
  simp only [List.getElem?_cons_zero, List.getElem?_cons_succ] at T0 T1 T2 T3 U0 U1 U2 U3
  have E1 := Lib.hid (sameTxs_same L.opn hL.opn hL.otx _ _ _ _ x2 (hd.opn.keep TxR.lasts (tt.keeps0 _)) (hd'.opn.keep TxR.lasts (tt.keeps0 _)))
  have E2 := Lib.hid (fun W (t : Turns [] x2 W) => EqF_blk L.blks hL.blks hL.blo _ _ _ _ W (hd.blks.keep ((tt.trans t (by simp)).keeps0 _)) (hd'.blks.keep ((tt.trans t (by simp)).keeps0 _)))
  have E3 := Lib.hid (fun W (t : Turns [] x2 W) => EqF_txs L.txs hL.txs (fun x hx => ⟨hL.tl x hx, hL.tt x hx⟩) _ _ _ _ W (hd.txs.keep TxsR.lasts ((tt.trans t (by simp)).keeps0 _)) (hd'.txs.keep TxsR.lasts ((tt.trans t (by simp)).keeps0 _)))
  have HT := Lib.hid tt
  clear hx1 hx2 hp2 b2 b3 t1 t2 b22 tt hd hd' hL
  go_enter Tryz.func19, Tryz.ntmps19
  go_upto_region 1 with fail
  rw [← HX.out.1, ← HX.out.2.1, ← HX.out.2.2]
  go_wp2_with fail
  refine E1.out.mono ?_
  rintro e y1 ⟨rfl, u1⟩
  have T2 := cellV u1 T2
  have U2 := cellV u1 U2
  have T3 := cellV u1 T3
  have U3 := cellV u1 U3
  have H1 := Lib.hid u1
  clear u1 E1
  go_wp2_with fail
  refine (E2.out y1 H1.out).mono ?_
  rintro e y2 ⟨rfl, u2⟩
  have T3 := cellV u2 T3
  have U3 := cellV u2 U3
  have H2 := Lib.hid (H1.out.trans u2 (by simp))
  clear u2 E2
  go_wp2_with fail
  refine (E3.out y2 H2.out).mono ?_
  rintro e y3 ⟨rfl, u3⟩
  have H3 := Lib.hid (HT.out.trans (H2.out.trans u3 (by simp)) (by simp))
  clear u3 E3
  go_wp2_with fail
  go_ret
  exact ⟨rfl, H3.out⟩
end Go.Proofs.YtoahnhphfabajaaGreat
