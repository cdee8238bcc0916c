/- The code's sameness of changes and transactions: the same ones are the same. -/
import Derived.Test.YtoahnhphfabajaaGreatGs0
namespace Go.Proofs.YtoahnhphfabajaaGreat
open Go.RowKit
set_option linter.unusedVariables false
set_option maxRecDepth 10000
set_option linter.unusedSimpArgs false
set_option linter.unnecessarySimpa false

set_option maxRecDepth 100000 in
set_option maxHeartbeats 4000000 in
theorem chgSame_same (c : Chg) (hc : c.ok) (rv rv' : Value) (w0 : World) (h1 : Sl w0 w0.heap.size 3 rv c.row.length (valCells c.row)) (h2 : Sl w0 w0.heap.size 3 rv' c.row.length (valCells c.row)) :
    Calls Tryz.prog 99 #[.agg #[.string c.table, .int .i64 c.op, rv], .agg #[.string c.table, .int .i64 c.op, rv']] w0 fun e w' => e = .returned (.bool true) ∧ Turns [] w0 w' := by
  obtain ⟨A, cp, rfl, _⟩ := h1.form
  obtain ⟨A', cp', rfl, _⟩ := h2.form
  obtain ⟨l, hl⟩ : ∃ l, l = c.row := ⟨_, rfl⟩
  rw [← hl] at h1 h2 ⊢
  obtain ⟨p2, hp2⟩ : ∃ p, p = w0.heap.size := ⟨_, rfl⟩
  obtain ⟨x1, hx1⟩ : ∃ x, x = w0.alloc (.cells #[.string c.table, .int .i64 c.op, .slice A l.length cp] 67) := ⟨_, rfl⟩
  obtain ⟨x2, hx2⟩ : ∃ x, x = x1.alloc (.cells #[.string c.table, .int .i64 c.op, .slice A' l.length cp'] 67) := ⟨_, rfl⟩
  have b2 := Blk.new w0 [.string c.table, .int .i64 c.op, .slice A l.length cp] 67
  rw [show w0.alloc (.cells [.string c.table, .int .i64 c.op, .slice A l.length cp].toArray 67) = x1 from hx1.symm, ← hp2] at b2
  have b3 := Blk.new x1 [.string c.table, .int .i64 c.op, .slice A' l.length cp'] 67
  rw [show x1.alloc (.cells [.string c.table, .int .i64 c.op, .slice A' l.length cp'].toArray 67) = x2 from hx2.symm, show x1.heap.size = p2 + 1 by rw [hx1, hp2]; simp] at b3
  have t1 : Turns [] w0 x1 := by rw [hx1]; exact (Turns.refl _ _).alloc _
  have t2 : Turns [] x1 x2 := by rw [hx2]; exact (Turns.refl _ _).alloc _
  have b22 := b2.turns t2 (by simp)
  have HX := Lib.hid (And.intro hx1 (And.intro hx2 hp2))
  have tt := t1.trans t2 (by simp)
  have T0 := b22.cell 0
  have T1 := b22.cell 1
  have T2 := b22.cell 2
  have U0 := b3.cell 0
  have U1 := b3.cell 1
  have U2 := b3.cell 2
  simp only [List.getElem?_cons_zero, List.getElem?_cons_succ] at T0 T1 T2 U0 U1 U2
  have SV := SameV_any l l A A' l.length l.length cp cp' x2.heap.size x2 ((tt.slice h1 (Nat.le_refl _) (by simp)).more tt.size) ((tt.slice h2 (Nat.le_refl _) (by simp)).more tt.size) (Nat.le_refl _)
  rw [(sameVs_iff l l).2 rfl] at SV
  have SV := Lib.hid SV
  have HT := Lib.hid tt
  clear hx1 hx2 hp2 b2 b3 t1 t2 b22 tt h1 h2 hl hc
  go_enter Tryz.func99, Tryz.ntmps99
  go_upto_region 1 with fail
  rw [← HX.out.1, ← HX.out.2.1, ← HX.out.2.2]
  go_wp2_with fail
  refine SV.out.mono ?_
  rintro e x3 ⟨rfl, t3⟩
  have HT3 := Lib.hid (HT.out.trans t3 (by simp))
  clear t3 SV
  go_wp2_with fail
  go_ret
  exact ⟨rfl, HT3.out⟩
set_option maxRecDepth 100000 in
set_option maxHeartbeats 8000000 in
theorem EqF_chg (l : List Chg) (hl : l.length ≤ 1000) (ha : ∀ x ∈ l, x.ok) (v v' : Value) (S S' : Nat → Prop) (w0 : World) (hd : Deep ChgR w0 S 3 v l) (hd' : Deep ChgR w0 S' 3 v' l) :
    Calls Tryz.prog 98 #[v, v', .func (.func 99) #[] #[]] w0 fun e w' => e = .returned (.bool true) ∧ Turns [] w0 w' := by
  obtain ⟨A, c, rfl, _⟩ := hd.form
  obtain ⟨A', c', rfl, _⟩ := hd'.form
  obtain ⟨n, hn⟩ : ∃ n, n = l.length := ⟨_, rfl⟩
  have HN := Lib.hid hn
  have HD := Lib.hid (And.intro hd (And.intro hd' ha))
  rw [← hn] at hl ⊢
  clear hd hd' ha hn
  go_enter Tryz.func98, Tryz.ntmps98
  go_wp2_with fail
  go_loopw [17] (fun u wr => ∃ i : Nat, i ≤ n ∧ u = .int .i64 i ∧ Turns [] w0 wr) (fun u _ => n - (intOf u).toNat)
  case atStart => exact ⟨0, by omega, rfl, Turns.refl _ _⟩
  case round =>
    rename World => wr
    obtain ⟨i, hi, rfl, tr⟩ := hrel
    by_cases hlt : i < n
    · have hii : (i : Int) < (n : Int) := by omega
      have hil : i < l.length := by have := HN.out; omega
      obtain ⟨b, off, c1, cs, hv, _, _, _, rg, hR⟩ := (HD.out.1.keep ChgR.lasts (tr.keeps0 _)).at_ (by omega) i hil
      injection hv with e1 e2 e3
      subst e1 e3
      clear e2
      obtain ⟨b', off', c1', cs', hv', _, _, _, rg', hR'⟩ := (HD.out.2.1.keep ChgR.lasts (tr.keeps0 _)).at_ (by omega) i hil
      injection hv' with e1 e2 e3
      subst e1 e3
      clear e2
      have hxo := HD.out.2.2 _ (List.getElem_mem hil)
      obtain ⟨x, hx⟩ : ∃ x, x = l[i] := ⟨_, rfl⟩
      rw [← hx] at hR hR' hxo
      obtain ⟨rv, rfl, hs⟩ := hR
      obtain ⟨Ar, cr, rfl, _⟩ := hs.form'
      obtain ⟨rv', rfl, hs'⟩ := hR'
      obtain ⟨Ar', cr', rfl, _⟩ := hs'.form'
      have hz1 := size_chg x.table x.op (.slice Ar x.row.length cr)
      have hz2 := size_chg x.table x.op (.slice Ar' x.row.length cr')
      obtain ⟨p8, hp8⟩ : ∃ q, q = wr.heap.size := ⟨_, rfl⟩
      obtain ⟨X1, hX1⟩ : ∃ q, q = wr.alloc (.cells #[.string x.table, .int .i64 x.op, .slice Ar x.row.length cr] 67) := ⟨_, rfl⟩
      obtain ⟨X2, hX2⟩ : ∃ q, q = X1.alloc (.cells #[.string x.table, .int .i64 x.op, .slice Ar' x.row.length cr'] 67) := ⟨_, rfl⟩
      have b8 := Blk.new wr [.string x.table, .int .i64 x.op, .slice Ar x.row.length cr] 67
      rw [show wr.alloc (.cells [.string x.table, .int .i64 x.op, .slice Ar x.row.length cr].toArray 67) = X1 from hX1.symm, ← hp8] at b8
      have hs1 : X1.heap.size = p8 + 1 := by rw [hX1, hp8]; simp
      have b9 := Blk.new X1 [.string x.table, .int .i64 x.op, .slice Ar' x.row.length cr'] 67
      rw [show X1.alloc (.cells [.string x.table, .int .i64 x.op, .slice Ar' x.row.length cr'].toArray 67) = X2 from hX2.symm, hs1] at b9
      have tX1 : Turns [] wr X1 := by rw [hX1]; exact (Turns.refl _ _).alloc _
      have tX2 : Turns [] X1 X2 := by rw [hX2]; exact (Turns.refl _ _).alloc _
      have r8 := (b8.turns tX2 (by simp)).all
      have r9 := b9.all
      have rg2 := rangeV tX1 rg'
      have CS := Lib.hid (chgSame_same x hxo _ _ X2 (((tX1.trans tX2 (by simp)).slice hs.sl (Nat.le_refl _) (by simp)).more (tX1.trans tX2 (by simp)).size) (((tX1.trans tX2 (by simp)).slice hs'.sl (Nat.le_refl _) (by simp)).more (tX1.trans tX2 (by simp)).size))
      have HX := Lib.hid (And.intro hX1 (And.intro hX2 (And.intro hp8 hs1)))
      have HT := Lib.hid ((tr.trans tX1 (by simp)).trans tX2 (by simp))
      clear hX1 hX2 hp8 hs1 b8 b9 tX1 tX2 tr rg' hx hxo hil hs hs'
      go_upto_region 6 with (first
        | (refine wpList_load_mid rfl 67 (.tmp 20) rfl b (off + i * 3) rfl _ _ rg Tryz.underlying67 rfl hz1 ?_)
        | fail)
      rw [← HX.out.1, ← HX.out.2.2.1]
      go_upto_region 7 with (first
        | (refine wpList_load_mid rfl 67 (.tmp 24) rfl b' (off' + i * 3) rfl _ _ rg2 Tryz.underlying67 rfl hz2 ?_)
        | fail)
      rw [← HX.out.2.1, HX.out.2.2.2]
      go_wp2_with (first
        | (refine wpList_load_mid rfl 67 (.tmp 8) rfl p8 0 rfl _ _ r8 Tryz.underlying67 rfl hz1 ?_)
        | (refine wpList_load_mid rfl 67 (.tmp 9) rfl (p8 + 1) 0 rfl _ _ r9 Tryz.underlying67 rfl hz2 ?_)
        | fail)
      refine CS.out.mono ?_
      rintro e X3 ⟨rfl, t3⟩
      have HT3 := Lib.hid (HT.out.trans t3 (by simp))
      clear t3 CS rg rg2 r8 r9
      go_wp2_with fail
      go_roundw
      case rel => exact ⟨i + 1, by omega, by go_num, HT3.out⟩
      case measure => (simp [intOf] <;> omega)
    · obtain rfl : n = i := by omega
      have HE := Lib.hid tr
      clear tr hi hlt
      go_wp2_with fail
      go_ret
      exact ⟨rfl, HE.out⟩
set_option maxRecDepth 100000 in
set_option maxHeartbeats 4000000 in
theorem sameTx_same (t : Txn) (ht : t.ok) (cv cv' : Value) (S S' : Nat → Prop) (w0 : World) (hd : Deep ChgR w0 S 3 cv t.chs) (hd' : Deep ChgR w0 S' 3 cv' t.chs) :
    Calls Tryz.prog 72 #[.agg #[.int .i64 t.id, cv], .agg #[.int .i64 t.id, cv']] w0 fun e w' => e = .returned (.bool true) ∧ Turns [] w0 w' := by
  obtain ⟨A, cp, rfl, _⟩ := hd.form
  obtain ⟨A', cp', rfl, _⟩ := hd'.form
  obtain ⟨p2, hp2⟩ : ∃ p, p = w0.heap.size := ⟨_, rfl⟩
  obtain ⟨x1, hx1⟩ : ∃ x, x = w0.alloc (.cells #[.int .i64 t.id, .slice A t.chs.length cp] 45) := ⟨_, rfl⟩
  obtain ⟨x2, hx2⟩ : ∃ x, x = x1.alloc (.cells #[.int .i64 t.id, .slice A' t.chs.length cp'] 45) := ⟨_, rfl⟩
  have b2 := Blk.new w0 [.int .i64 t.id, .slice A t.chs.length cp] 45
  rw [show w0.alloc (.cells [.int .i64 t.id, .slice A t.chs.length cp].toArray 45) = x1 from hx1.symm, ← hp2] at b2
  have b3 := Blk.new x1 [.int .i64 t.id, .slice A' t.chs.length cp'] 45
  rw [show x1.alloc (.cells [.int .i64 t.id, .slice A' t.chs.length cp'].toArray 45) = x2 from hx2.symm, show x1.heap.size = p2 + 1 by rw [hx1, hp2]; simp] at b3
  have t1 : Turns [] w0 x1 := by rw [hx1]; exact (Turns.refl _ _).alloc _
  have t2 : Turns [] x1 x2 := by rw [hx2]; exact (Turns.refl _ _).alloc _
  have b22 := b2.turns t2 (by simp)
  have HX := Lib.hid (And.intro hx1 (And.intro hx2 hp2))
  have tt := t1.trans t2 (by simp)
  have T0 := b22.cell 0
  have T1 := b22.cell 1
  have U0 := b3.cell 0
  have U1 := b3.cell 1
  simp only [List.getElem?_cons_zero, List.getElem?_cons_succ] at T0 T1 U0 U1
  have EQ := Lib.hid (EqF_chg t.chs ht.len ht.chs _ _ S S' x2 (hd.keep ChgR.lasts (tt.keeps0 _)) (hd'.keep ChgR.lasts (tt.keeps0 _)))
  have HT := Lib.hid tt
  clear hx1 hx2 hp2 b2 b3 t1 t2 b22 tt hd hd' ht
  go_enter Tryz.func72, Tryz.ntmps72
  go_upto_region 1 with fail
  rw [← HX.out.1, ← HX.out.2.1, ← HX.out.2.2]
  go_wp2_with fail
  refine EQ.out.mono ?_
  rintro e x3 ⟨rfl, t3⟩
  have HT3 := Lib.hid (HT.out.trans t3 (by simp))
  clear t3 EQ
  go_wp2_with fail
  go_ret
  exact ⟨rfl, HT3.out⟩
set_option maxRecDepth 100000 in
set_option maxHeartbeats 8000000 in
theorem EqF_tx (l : List Txn) (hl : l.length ≤ 1000) (ha : ∀ x ∈ l, x.ok) (v v' : Value) (S S' : Nat → Prop) (w0 : World) (hd : Deep TxR w0 S 2 v l) (hd' : Deep TxR w0 S' 2 v' l) :
    Calls Tryz.prog 71 #[v, v', .func (.func 72) #[] #[]] w0 fun e w' => e = .returned (.bool true) ∧ Turns [] w0 w' := by
  obtain ⟨A, c, rfl, _⟩ := hd.form
  obtain ⟨A', c', rfl, _⟩ := hd'.form
  obtain ⟨n, hn⟩ : ∃ n, n = l.length := ⟨_, rfl⟩
  have HN := Lib.hid hn
  have HD := Lib.hid (And.intro hd (And.intro hd' ha))
  rw [← hn] at hl ⊢
  clear hd hd' ha hn
  go_enter Tryz.func71, Tryz.ntmps71
  go_wp2_with fail
  go_loopw [17] (fun u wr => ∃ i : Nat, i ≤ n ∧ u = .int .i64 i ∧ Turns [] w0 wr) (fun u _ => n - (intOf u).toNat)
  case atStart => exact ⟨0, by omega, rfl, Turns.refl _ _⟩
  case round =>
    rename World => wr
    obtain ⟨i, hi, rfl, tr⟩ := hrel
    by_cases hlt : i < n
    · have hii : (i : Int) < (n : Int) := by omega
      have hil : i < l.length := by have := HN.out; omega
      obtain ⟨b, off, c1, cs, hv, _, _, _, rg, hR⟩ := (HD.out.1.keep TxR.lasts (tr.keeps0 _)).at_ (by omega) i hil
      injection hv with e1 e2 e3
      subst e1 e3
      clear e2
      obtain ⟨b', off', c1', cs', hv', _, _, _, rg', hR'⟩ := (HD.out.2.1.keep TxR.lasts (tr.keeps0 _)).at_ (by omega) i hil
      injection hv' with e1 e2 e3
      subst e1 e3
      clear e2
      have hxo := HD.out.2.2 _ (List.getElem_mem hil)
      obtain ⟨x, hx⟩ : ∃ x, x = l[i] := ⟨_, rfl⟩
      rw [← hx] at hR hR' hxo
      obtain ⟨rv, rfl, hs⟩ := hR
      obtain ⟨Ar, cr, rfl, _⟩ := hs.form
      obtain ⟨rv', rfl, hs'⟩ := hR'
      obtain ⟨Ar', cr', rfl, _⟩ := hs'.form
      have hz1 := size_tx x.id (.slice Ar x.chs.length cr)
      have hz2 := size_tx x.id (.slice Ar' x.chs.length cr')
      obtain ⟨p8, hp8⟩ : ∃ q, q = wr.heap.size := ⟨_, rfl⟩
      obtain ⟨X1, hX1⟩ : ∃ q, q = wr.alloc (.cells #[.int .i64 x.id, .slice Ar x.chs.length cr] 45) := ⟨_, rfl⟩
      obtain ⟨X2, hX2⟩ : ∃ q, q = X1.alloc (.cells #[.int .i64 x.id, .slice Ar' x.chs.length cr'] 45) := ⟨_, rfl⟩
      have b8 := Blk.new wr [.int .i64 x.id, .slice Ar x.chs.length cr] 45
      rw [show wr.alloc (.cells [.int .i64 x.id, .slice Ar x.chs.length cr].toArray 45) = X1 from hX1.symm, ← hp8] at b8
      have hs1 : X1.heap.size = p8 + 1 := by rw [hX1, hp8]; simp
      have b9 := Blk.new X1 [.int .i64 x.id, .slice Ar' x.chs.length cr'] 45
      rw [show X1.alloc (.cells [.int .i64 x.id, .slice Ar' x.chs.length cr'].toArray 45) = X2 from hX2.symm, hs1] at b9
      have tX1 : Turns [] wr X1 := by rw [hX1]; exact (Turns.refl _ _).alloc _
      have tX2 : Turns [] X1 X2 := by rw [hX2]; exact (Turns.refl _ _).alloc _
      have r8 := (b8.turns tX2 (by simp)).all
      have r9 := b9.all
      have rg2 := rangeV tX1 rg'
      have CS := Lib.hid (sameTx_same x hxo _ _ _ _ X2 (hs.keep ChgR.lasts ((tX1.trans tX2 (by simp)).keeps0 _)) (hs'.keep ChgR.lasts ((tX1.trans tX2 (by simp)).keeps0 _)))
      have HX := Lib.hid (And.intro hX1 (And.intro hX2 (And.intro hp8 hs1)))
      have HT := Lib.hid ((tr.trans tX1 (by simp)).trans tX2 (by simp))
      clear hX1 hX2 hp8 hs1 b8 b9 tX1 tX2 tr rg' hx hxo hil hs hs'
      go_upto_region 6 with (first
        | (refine wpList_load_mid rfl 45 (.tmp 20) rfl b (off + i * 2) rfl _ _ rg Tryz.underlying45 rfl hz1 ?_)
        | fail)
      rw [← HX.out.1, ← HX.out.2.2.1]
      go_upto_region 7 with (first
        | (refine wpList_load_mid rfl 45 (.tmp 24) rfl b' (off' + i * 2) rfl _ _ rg2 Tryz.underlying45 rfl hz2 ?_)
        | fail)
      rw [← HX.out.2.1, HX.out.2.2.2]
      go_wp2_with (first
        | (refine wpList_load_mid rfl 45 (.tmp 8) rfl p8 0 rfl _ _ r8 Tryz.underlying45 rfl hz1 ?_)
        | (refine wpList_load_mid rfl 45 (.tmp 9) rfl (p8 + 1) 0 rfl _ _ r9 Tryz.underlying45 rfl hz2 ?_)
        | fail)
      refine CS.out.mono ?_
      rintro e X3 ⟨rfl, t3⟩
      have HT3 := Lib.hid (HT.out.trans t3 (by simp))
      clear t3 CS rg rg2 r8 r9
      go_wp2_with fail
      go_roundw
      case rel => exact ⟨i + 1, by omega, by go_num, HT3.out⟩
      case measure => (simp [intOf] <;> omega)
    · obtain rfl : n = i := by omega
      have HE := Lib.hid tr
      clear tr hi hlt
      go_wp2_with fail
      go_ret
      exact ⟨rfl, HE.out⟩
theorem sameTxs_same (l : List Txn) (hl : l.length ≤ 1000) (ha : ∀ x ∈ l, x.ok) (v v' : Value) (S S' : Nat → Prop) (w0 : World) (hd : Deep TxR w0 S 2 v l) (hd' : Deep TxR w0 S' 2 v' l) :
    Calls Tryz.prog 40 #[v, v'] w0 fun e w' => e = .returned (.bool true) ∧ Turns [] w0 w' := by
  have EQ := Lib.hid (EqF_tx l hl ha v v' S S' w0 hd hd')
  clear hd hd'
  go_enter Tryz.func40, Tryz.ntmps40
  go_wp2_with fail
  refine EQ.out.mono ?_
  rintro e x3 ⟨rfl, t3⟩
  have HT3 := Lib.hid t3
  clear t3 EQ
  go_wp2_with fail
  go_ret
  exact ⟨rfl, HT3.out⟩
end Go.Proofs.YtoahnhphfabajaaGreat
