/- Sums of changes, walked: code's and the document's. -/
import Derived.Test.YtoahnhphfabajaaGreatLdA
import Derived.Test.YtoahnhphfabajaaGreatGI
namespace Go.Proofs.YtoahnhphfabajaaGreat
open Go.RowKit
set_option linter.unusedVariables false
set_option maxRecDepth 10000
set_option linter.unusedSimpArgs false
set_option linter.unnecessarySimpa false

theorem cell1T {w : World} {B n c : Nat} {A : Option Addr} {xs : List Value} (h : Sl w B 1 (.slice A n c) n xs) (k : Nat) (hk : k < n) : ∃ b off u, A = some ⟨b, off, none⟩ ∧ b < B ∧ xs[k]? = some u ∧ w.cell? ⟨b, off + k, none⟩ = some u := by
  obtain ⟨hl, A', c', hv, h1, h2, h3, hr⟩ := h
  injection hv with e1 e2 e3
  subst e1
  have hx : k < xs.length := by omega
  obtain ⟨b, off, rfl, hb, hc⟩ := hr (by intro e; rw [e] at hx; simp at hx)
  exact ⟨b, off, xs[k], rfl, hb, List.getElem?_eq_getElem hx, hc k _ (List.getElem?_eq_getElem hx)⟩

set_option maxRecDepth 100000 in
set_option maxHeartbeats 2000000 in
theorem Ints_any {W0 w : World} {v : Value} {bs : List UInt8} (l : List Int) {A : Option Addr} {n c B : Nat} (hs : Sl w B 1 (.slice A n c) n (l.map (Value.int .i64))) (hB : B ≤ w.heap.size) (h : Mine W0 w v bs) (hn : n = l.length) (hm : bs.length + 8 * l.length ≤ 1000000000) :
    Calls Tryz.prog 58 #[v, .slice A n c] w fun e w' => ∃ v', e = .returned v' ∧ Mine W0 w' v' (bs ++ l.flatMap le8) ∧ Turns [] w w' := by
  have hnb : n ≤ 1000000000 := by omega
  have HS := Lib.hid (And.intro hs hB)
  have HN := Lib.hid hn
  have HM := Lib.hid hm
  have HH := Lib.hid h
  clear hs hB hn hm h
  go_enter Tryz.func58, Tryz.ntmps58
  go_wp2_with fail
  go_loopw [0, 9] (fun u i wr => ∃ k : Nat, k ≤ n ∧ i = .int .i64 k ∧ Mine W0 wr u (bs ++ (l.take k).flatMap le8) ∧ Turns [] w wr) (fun _ i _ => n - (intOf i).toNat)
  case atStart => exact ⟨0, by omega, rfl, by simpa using HH.out, Turns.refl _ _⟩
  case round =>
    obtain ⟨k, hk, rfl, m0, t0⟩ := hrel
    by_cases hlt : k < n
    · have hki : (k : Int) < (n : Int) := by omega
      obtain ⟨b, off, x, rfl, hb, hx, hc⟩ := cell1T HS.out.1 k hlt
      have hkl : k < l.length := by have := HN.out; omega
      obtain ⟨y, hy⟩ : ∃ y, y = l[k] := ⟨_, rfl⟩
      rw [List.getElem?_map, List.getElem?_eq_getElem hkl, Option.map_some, ← hy] at hx
      injection hx with hx
      subst hx
      have hst : bs ++ (l.take (k + 1)).flatMap le8 = bs ++ (l.take k).flatMap le8 ++ le8 y := by
        rw [List.take_succ_eq_append_getElem hkl, List.flatMap_append, ← hy]; simp
      have hl1 : (bs ++ (l.take k).flatMap le8).length ≤ 1000000000 := by
        have h8 : ∀ (m : List Int), (m.flatMap le8).length = 8 * m.length := by
          intro m
          induction m with
          | nil => rfl
          | cons a m ih => rw [List.flatMap_cons, List.length_append, ih, le8_length, List.length_cons]; omega
        have := HM.out
        rw [List.length_append, h8, List.length_take]; omega
      have q0 := cellV t0 hc
      have CI := Lib.hid (CInt y m0 hl1)
      have HST := Lib.hid hst
      have HT := Lib.hid t0
      clear hy hst hl1 m0 t0 hc hb hkl
      go_wp2_with fail
      refine CI.out.mono ?_
      rintro e w2 ⟨v2, rfl, m2, t2⟩
      have HF := Lib.hid (And.intro (show Mine W0 w2 v2 (bs ++ (l.take (k + 1)).flatMap le8) by rw [HST.out]; exact m2) (HT.out.trans t2 (by simp)))
      clear m2 t2
      go_wp2_with fail
      go_roundw
      case rel => exact ⟨k + 1, by omega, by go_num, HF.out.1, HF.out.2⟩
      case measure => (simp [intOf] <;> omega)
    · obtain rfl : k = n := by omega
      rw [List.take_of_length_le (by have := HN.out; omega)] at m0
      have HF := Lib.hid (And.intro m0 t0)
      clear m0 t0
      go_wp2_with fail
      go_ret
      exact ⟨_, rfl, HF.out.1, HF.out.2⟩

set_option maxRecDepth 100000 in
set_option maxHeartbeats 2000000 in
theorem CRow_any (tx seq : Int) (c : Chg) (hc : c.ok) (rv : Value) (w0 : World) (hs : Sl w0 w0.heap.size 3 rv c.row.length (valCells c.row)) :
    Calls Tryz.prog 47 #[.int .i64 tx, .int .i64 seq, .agg #[.string c.table, .int .i64 c.op, rv]] w0 fun e w' => e = .returned (.agg (bvs (chgSum tx seq c)).toArray) ∧ Turns [] w0 w' := by
  obtain ⟨A, cp, rfl, hcp, _⟩ := hs.form
  obtain ⟨w, hw⟩ : ∃ x, x = w0.alloc (.cells #[.string c.table, .int .i64 c.op, .slice A c.row.length cp] 67) := ⟨_, rfl⟩
  obtain ⟨p, hp⟩ : ∃ p, p = w0.heap.size := ⟨_, rfl⟩
  have bc := Blk.new w0 [.string c.table, .int .i64 c.op, .slice A c.row.length cp] 67
  have t0 := (Turns.refl [] w0).alloc (.cells #[.string c.table, .int .i64 c.op, .slice A c.row.length cp] 67)
  have hs0 : w.heap.size = w0.heap.size + 1 := by rw [hw]; simp
  have HS0 := Lib.hid (show w0.heap.size ≤ w.heap.size by omega)
  rw [show w0.alloc (.cells [.string c.table, .int .i64 c.op, .slice A c.row.length cp].toArray 67) = w from hw.symm, ← hp] at bc
  rw [← hw] at t0
  have HW0 := Lib.hid hw
  have HP := Lib.hid hp
  have hpw : p < w.heap.size := by omega
  obtain ⟨res, hres⟩ : ∃ r, r = bvs (chgSum tx seq c) := ⟨_, rfl⟩
  rw [← hres]
  have HRES := Lib.hid hres
  have hz32 := zero_hash
  have hzl := zeros32_len
  have b2 := Blk.new w (bvs (zeros 32)) 53
  have t1 := (Turns.refl [] w).alloc (.cells (bvs (zeros 32)).toArray 53)
  generalize hzz : bvs (zeros 32) = zz at hz32 hzl b2 t1
  obtain ⟨w1, hw1⟩ : ∃ x, x = w.alloc (.cells zz.toArray 53) := ⟨_, rfl⟩
  rw [← hw1] at b2 t1
  have hs1 : w1.heap.size = w.heap.size + 1 := by rw [hw1]; simp
  have HS1 := Lib.hid hs1
  have HW1 := Lib.hid hw1
  have HZL := Lib.hid hzl
  have H0 := Lib.hid (And.intro b2 t1)
  clear hres hzz hw1 hzl b2 t1 hs1
  have HLEN := Lib.hid (show (chgSum tx seq c).length = 32 from chgSum_len _ _ _)
  have hs1 := (t0.trans H0.out.2 (by simp)).slice hs (Nat.le_refl _) (by simp)
  have hbo : w0.heap.size ≤ w1.heap.size := by have := HS1.out; omega
  have bc1 := bc.turns H0.out.2 (by simp)
  have HC := Lib.hid (And.intro hc (And.intro hs1 hbo))
  have HT0 := Lib.hid t0
  have hpq : p ≠ w.heap.size := by omega
  have HPQ := Lib.hid hpq
  have HBC := Lib.hid bc1
  clear bc bc1 t0 hw hp hs hs0 hs1 hbo hc hpq hcp hpw
  go_enter Tryz.func47, Tryz.ntmps47
  go_upto_region 1 with (first | (refine wpList_alloc_arr (o := ⟨some 6, _, _, _, _, _⟩) rfl 53 rfl zz.toArray hz32 ?_) | fail)
  try simp only [Act.put, List.setIfInBounds_toArray, List.set_cons_succ, List.set_cons_zero]
  rw [← HW0.out, ← HW1.out, ← HP.out]
  obtain ⟨Y, hY⟩ : ∃ q, q = w1.drew := ⟨_, rfl⟩
  have tY : Turns [] w1 Y := by rw [hY]; exact (Turns.refl _ _).drew
  have C1 := (HBC.out.turns tY (by simp)).cell 1
  simp only [List.getElem?_cons_zero, List.getElem?_cons_succ] at C1
  have S0 : Turns [] Y Y := Turns.refl _ _
  have HY := Lib.hid (And.intro hY tY)
  clear hY tY
  refine rk0 (fun W => Turns [] Y W) (fun _ => True) 8 8 ?_
  rw [← HY.out.1]
  refine rkA 0 8 1 (v := ?_) ?_ (.mk' S0 trivial) ?_
  rotate_left
  · intro W hS; go_simp; all_goals with_reducible rfl
  try simp only [sI, sS, sZ]
  refine rkA 1 9 3 (v := ?_) ?_ (.mk' S0 trivial) ?_
  rotate_left
  · intro W hS; go_simp; all_goals with_reducible rfl
  try simp only [sI, sS, sZ]
  refine rkA 4 12 19 (v := ?_) ?_ (.mk' S0 trivial) ?_
  rotate_left
  · intro W hS; go_simp; all_goals with_reducible rfl
  try simp only [sI, sS, sZ]
  refine rkA 5 13 51 (v := ?_) ?_ (.mk' S0 trivial) ?_
  rotate_left
  · intro W hS; have c0 := cellL hS C1 (by simp); go_simp; all_goals with_reducible rfl
  try simp only [sI, sS, sZ]
  refine rk1 2 55 (fun K hK => ?_)
  go_simp
  have D10 : Turns [] Y (Y.alloc (.cells #[.int .i64 tx, .int .i64 seq] 3)) := (Turns.refl _ _).alloc _
  have L10 := Sl.new Y #[.int .i64 tx, .int .i64 seq] 3 2 1 rfl (by simp [maxLen])
  have E10 : (Y.alloc (.cells #[.int .i64 tx, .int .i64 seq] 3)).heap.size = Y.heap.size + 1 := by simp
  generalize Y.alloc (.cells #[.int .i64 tx, .int .i64 seq] 3) = X10 at D10 L10 E10 ⊢
  refine hK _ _ (.mk' ((Turns.refl [] Y).trans D10 (by simp)) trivial) ?_
  clear hK K
  try simp only [sI, sS, sZ]
  refine rk1 3 63 (fun K hK => ?_)
  go_simp
  refine (Ints_any (W0 := Y) (bs := []) [tx, seq] L10 (by rw [E10]; exact Nat.le_refl _) (Mine.nil D10) rfl (by simp)).mono ?_
  rintro e X11 ⟨v11, rfl, m11, D11⟩
  refine hK _ _ (.mk' (((Turns.refl [] Y).trans D10 (by simp)).trans D11 (by simp)) trivial) ?_
  clear hK K
  try simp only [sI, sS, sZ]
  refine rk1 6 127 (fun K hK => ?_)
  go_simp
  refine (CByte c.op m11 (by simp [le8_length])).mono ?_
  rintro e X14 ⟨v14, rfl, m14, D14⟩
  refine hK _ _ (.mk' ((((Turns.refl [] Y).trans D10 (by simp)).trans D11 (by simp)).trans D14 (by simp)) trivial) ?_
  clear hK K
  try simp only [sI, sS, sZ]
  refine rkA 7 7 255 (v := ?_) ?_ (.mk' ((((Turns.refl [] Y).trans D10 (by simp)).trans D11 (by simp)).trans D14 (by simp)) trivial) ?_
  rotate_left
  · intro W hS; go_simp; all_goals with_reducible rfl
  try simp only [sI, sS, sZ]
  refine rkZ ?_
  have T9 := ((((Turns.refl [] Y).trans D10 (by simp)).trans D11 (by simp)).trans D14 (by simp))
  obtain ⟨b14, hb14⟩ : ∃ b, b = [] ++ [tx, seq].flatMap le8 ++ [byte1 c.op] := ⟨_, rfl⟩
  rw [← hb14] at m14
  have L14 := Lib.hid (show b14.length = 17 by rw [hb14]; simp [le8_length])
  have htx : b14 ++ textBytes c.table.data.toList ++ textBytes (strOf (rowBytes c.row)).data.toList = chgText tx seq c := by rw [hb14]; simp [chgText, strOf]
  obtain ⟨bt, hbt⟩ : ∃ b, b = b14 ++ textBytes c.table.data.toList ++ textBytes (strOf (rowBytes c.row)).data.toList := ⟨_, rfl⟩
  rw [← hbt] at htx
  have HBT := Lib.hid hbt
  have HTX := Lib.hid (show bvs (leafH bt) = res by rw [htx, HRES.out]; rfl)
  have HCL := Lib.hid (show bt.length ≤ 100000000 by rw [htx]; have := chgText_len tx seq c HC.out.1; omega)
  have HF := Lib.hid (And.intro m14 (HY.out.2.trans T9 (by simp)))
  clear C1 S0 T9 m14 m11 L10 E10 D10 D11 D14 HY hb14 htx hbt
  go_upto_region 2 with fail
  obtain ⟨Y, hY⟩ : ∃ q, q = X14.drew := ⟨_, rfl⟩
  have tY : Turns [] X14 Y := by rw [hY]; exact (Turns.refl _ _).drew
  have ty1 := HF.out.2.trans tY (by simp)
  have bY := HBC.out.turns ty1 (by simp)
  have C0 := bY.cell 0
  have C2 := bY.cell 2
  simp only [List.getElem?_cons_zero, List.getElem?_cons_succ] at C0 C2
  have mY := HF.out.1.on tY
  have sY := ty1.slice HC.out.2.1 HC.out.2.2 (by simp)
  have S0 : Turns [w.heap.size] Y Y := Turns.refl _ _
  have hrl : res.length = 32 := by rw [HRES.out, bvs_length]; exact HLEN.out
  have hr1 : ∀ u ∈ res, u.oneCell' = true := by rw [HRES.out]; exact bvs_one _
  have Q_sz := Lib.hid (show (Tryz.prog.info? 53).map (·.size) = some res.length by rw [size_hash, hrl])
  have Q_l := Lib.hid (show zz.length = res.length by rw [HZL.out, hrl])
  have Q_1 := Lib.hid hr1
  clear hrl hr1
  have HYY := Lib.hid hY
  have HY := Lib.hid (And.intro trivial ty1)
  have hlY : w0.heap.size ≤ Y.heap.size := Nat.le_trans HC.out.2.2 ty1.size
  have HLY := Lib.hid hlY
  clear hY tY ty1 bY hlY HF
  refine rk0 (fun W => Turns [w.heap.size] Y W) (fun _ => True) 11 11 ?_
  rw [← HYY.out]
  refine rkA 0 15 1 (v := ?_) ?_ (.mk' S0 trivial) ?_
  rotate_left
  · intro W hS; go_simp; all_goals with_reducible rfl
  try simp only [sI, sS, sZ]
  refine rkA 1 16 3 (v := ?_) ?_ (.mk' S0 trivial) ?_
  rotate_left
  · intro W hS; go_simp; all_goals with_reducible rfl
  try simp only [sI, sS, sZ]
  refine rkA 2 17 7 (v := ?_) ?_ (.mk' S0 trivial) ?_
  rotate_left
  · intro W hS; have c0 := cellL hS C0 (by simp; exact HPQ.out); go_simp; all_goals with_reducible rfl
  try simp only [sI, sS, sZ]
  refine rkA 4 19 23 (v := ?_) ?_ (.mk' S0 trivial) ?_
  rotate_left
  · intro W hS; go_simp; all_goals with_reducible rfl
  try simp only [sI, sS, sZ]
  refine rkA 5 20 55 (v := ?_) ?_ (.mk' S0 trivial) ?_
  rotate_left
  · intro W hS; have c0 := cellL hS C2 (by simp; exact HPQ.out); go_simp; all_goals with_reducible rfl
  try simp only [sI, sS, sZ]
  refine rk1 3 63 (fun K hK => ?_)
  go_simp
  refine (CText c.table (mY.on (Turns.refl [] Y)) (by rw [L14.out]; omega) (by have := HC.out.1.table; simp only [maxLen]; omega)).mono ?_
  rintro e X18 ⟨v18, rfl, m18, D18⟩
  refine hK _ _ (.mk' (((Turns.refl [] Y).trans D18 (by simp)).mono (by simp)) trivial) ?_
  clear hK K
  try simp only [sI, sS, sZ]
  refine rk1 6 127 (fun K hK => ?_)
  go_simp
  refine (RowBytes_any c.row _ _ _ w0.heap.size X18 HC.out.1.row (((Turns.refl [] Y).trans D18 (by simp)).slice sY HLY.out (by simp)) (Nat.le_trans HLY.out ((Turns.refl [] Y).trans D18 (by simp)).size) (by have := HC.out.1.len; omega)).mono ?_
  rintro e X21 ⟨v21, rfl, m21⟩
  have D21 := m21.turns
  refine hK _ _ (.mk' ((((Turns.refl [] Y).trans D18 (by simp)).trans D21 (by simp)).mono (by simp)) trivial) ?_
  clear hK K
  try simp only [sI, sS, sZ]
  refine rk1 7 255 (fun K hK => ?_)
  have hcv := conv_str (P := Tryz.prog) (dst := 9) (src := 129) (e := 5) (m21.on (Turns.refl [] X21)).sl Tryz.underlying129 Tryz.underlying5 Tryz.underlying9
  go_simp
  clear hcv
  refine hK _ _ (.mk' ((((Turns.refl [] Y).trans D18 (by simp)).trans D21 (by simp)).mono (by simp)) trivial) ?_
  clear hK K
  try simp only [sI, sS, sZ]
  refine rk1 8 511 (fun K hK => ?_)
  go_simp
  refine (CText (strOf (rowBytes c.row)) (m18.on ((Turns.refl [] X18).trans D21 (by simp))) (by rw [List.length_append, L14.out, textBytes_length]; have := HC.out.1.table; have : c.table.data.toList.length = c.table.size := rfl; omega) (by rw [strOf_size]; have := rowBytes_len c.row; have := HC.out.1.len; simp only [maxLen]; omega)).mono ?_
  rintro e X23 ⟨v23, rfl, m23, D23⟩
  rw [← HBT.out] at m23
  obtain ⟨A23, c23, rfl, _⟩ := m23.len
  refine hK _ _ (.mk' (((((Turns.refl [] Y).trans D18 (by simp)).trans D21 (by simp)).trans D23 (by simp)).mono (by simp)) trivial) ?_
  clear hK K
  try simp only [sI, sS, sZ]
  refine rk1 9 1023 (fun K hK => ?_)
  go_simp
  refine (Leaf_any _ _ _ _ _ _ m23.sl (Nat.le_refl _) HCL.out).mono ?_
  rintro e X24 ⟨rfl, D24⟩
  rw [show bvs (leafH _) = res from HTX.out]
  refine hK _ _ (.mk' ((((((Turns.refl [] Y).trans D18 (by simp)).trans D21 (by simp)).trans D23 (by simp)).trans D24 (by simp)).mono (by simp)) trivial) ?_
  clear hK K
  try simp only [sI, sS, sZ]
  refine rk1 10 2047 (fun K hK => ?_)
  refine wp_store_blk 53 _ _ (by rfl) w.heap.size (by rfl) res zz 53 (by rfl) ((H0.out.1.turns HY.out.2 (by simp)).turns (((((Turns.refl [] Y).trans D18 (by simp)).trans D21 (by simp)).trans D23 (by simp)).trans D24 (by simp)) (by simp)) Q_l.out Q_sz.out Q_1.out (fun X25 hb25 ht25 => ?_)
  have HE := Lib.hid (And.intro hb25 (((((((Turns.refl [] Y).trans D18 (by simp)).trans D21 (by simp)).trans D23 (by simp)).trans D24 (by simp)).mono (by simp)).trans ht25 (fun x hx => .inl hx)))
  refine hK _ _ (.mk' HE.out.2 trivial) ?_
  clear hK K
  try simp only [sI, sS, sZ]
  refine rkZ ?_
  all_goals go_wp2_with fail
  all_goals refine bodyPost_ret (results_cell_row rfl _ _ w.heap.size _ _ _ _ (by kernel_rfl) HE.out.1 Tryz.underlying53 rfl (by rw [List.size_toArray]; exact Q_sz.out)) rfl ?_
  all_goals exact ⟨rfl, ((HT0.out.trans H0.out.2 (by simp)).trans HY.out.2 (by simp)).trans HE.out.2 (by intro x hx; simp at hx; exact .inr (by have := HS0.out; omega))⟩
end Go.Proofs.YtoahnhphfabajaaGreat
