/- LedgerApart, walked. -/
import Derived.Test.YtoahnhphfabajaaLdS
namespace Go.Proofs.Ytoahnhphfabajaa
open Go.RowKit
set_option linter.unusedVariables false
set_option maxRecDepth 10000
set_option linter.unusedSimpArgs false
set_option linter.unnecessarySimpa false

theorem chgText_parts (tx seq : Int) (c : Chg) : chgText tx seq c = le8 tx ++ (le8 seq ++ ([byte1 c.op] ++ (textBytes c.table.data.toList ++ textBytes (rowBytes c.row)))) := by simp [chgText]
theorem le8_inj {a b : Int} (ha : i64ok a) (hb : i64ok b) (h : le8 a = le8 b) : a = b := by
  rw [← le_le8 a ha.1 ha.2, ← le_le8 b hb.1 hb.2, h]
/-- What two equal texts say. -/
theorem chgText_eq {tx seq i k : Int} {a b : Chg} (h : chgText tx seq a = chgText i k b) : le8 tx = le8 i ∧ le8 seq = le8 k ∧ byte1 a.op = byte1 b.op ∧ textBytes a.table.data.toList ++ textBytes (rowBytes a.row) = textBytes b.table.data.toList ++ textBytes (rowBytes b.row) := by
  rw [chgText_parts, chgText_parts] at h
  obtain ⟨h1, h⟩ := List.append_inj h (by simp [le8_length])
  obtain ⟨h2, h⟩ := List.append_inj h (by simp [le8_length])
  obtain ⟨h3, h⟩ := List.append_inj h rfl
  exact ⟨h1, h2, by simpa using h3, h⟩
theorem textBytes_inj {a b : List UInt8} (ha : a.length ≤ 65535) (hb : b.length ≤ 65535) (h : textBytes a = textBytes b) : a = b := by
  unfold textBytes cutText at h
  rw [List.take_of_length_le ha, List.take_of_length_le hb] at h
  exact (List.append_inj h rfl).2
def v2 (n : Int) : Val := ⟨2, n, ⟨#[]⟩⟩
theorem row2_inj {n m : Int} (hn : i64ok n) (hm : i64ok m) (h : rowBytes [v2 n] = rowBytes [v2 m]) : n = m := by
  have h1 : le8 n = le8 m := by
    simpa [rowBytes, valsBytes, valBytes, valTail, v2] using h
  exact le8_inj hn hm h1
theorem row2_len (n : Int) : (rowBytes [v2 n]).length = 10 := by simp [rowBytes, valsBytes, valBytes, valTail, v2, le8_length]
/-- The change of the statement; one that differs. -/
def apA (n : Int) (s : ByteArray) : Chg := ⟨(⟨#[120]⟩ : ByteArray) ++ s, 1, [v2 n]⟩
structure ApR (tx seq : Int) (a : Chg) (i k : Int) (b : Chg) : Prop where
  ok : b.ok
  ne : chgText tx seq a ≠ chgText i k b
theorem v2_fits {n : Int} (h : i64ok n) : (v2 n).fits := ⟨⟨by show (-9223372036854775808 : Int) ≤ 2; omega, by show (2 : Int) ≤ _; omega⟩, h, none_fits⟩
theorem ap_ok {tb : ByteArray} {op n : Int} (ht : tb.size ≤ 1000) (ho : op = 1 ∨ op = 2) (hn : i64ok n) : (⟨tb, op, [v2 n]⟩ : Chg).ok :=
  ⟨ht, ⟨by show (-9223372036854775808 : Int) ≤ op; omega, by show op ≤ _; omega⟩, by show (1 : Nat) ≤ 100; omega, by intro v hv; simp at hv; subst hv; exact v2_fits hn⟩
theorem x_size (s : ByteArray) : ((⟨#[120]⟩ : ByteArray) ++ s).size = s.size + 1 := by rw [ByteArray.size_append]; show 1 + s.size = _; omega
theorem ap0 {tx seq n : Int} {s : ByteArray} (hs : s.size ≤ 40) (ht : 0 ≤ tx ∧ tx < 1000) (hq : 0 ≤ seq ∧ seq < 60) (hn : i64ok n) : ApR tx seq (apA n s) (tx + 1) seq (apA n s) := ⟨ap_ok (by rw [x_size]; omega) (.inl rfl) hn, fun h => by
  have := le8_inj (by unfold i64ok; omega) (by unfold i64ok; omega) (chgText_eq h).1; omega⟩
theorem ap1 {tx seq n : Int} {s : ByteArray} (hs : s.size ≤ 40) (ht : 0 ≤ tx ∧ tx < 1000) (hq : 0 ≤ seq ∧ seq < 60) (hn : i64ok n) : ApR tx seq (apA n s) tx (seq + 1) (apA n s) := ⟨ap_ok (by rw [x_size]; omega) (.inl rfl) hn, fun h => by
  have := le8_inj (by unfold i64ok; omega) (by unfold i64ok; omega) (chgText_eq h).2.1; omega⟩
theorem ap2 {tx seq n : Int} {s : ByteArray} (hs : s.size ≤ 40) (ht : 0 ≤ tx ∧ tx < 1000) (hq : 0 ≤ seq ∧ seq < 60) (hn : i64ok n) : ApR tx seq (apA n s) tx seq ⟨s, 1, [v2 n]⟩ := ⟨ap_ok (by omega) (.inl rfl) hn, fun h => by
  have h1 := congrArg List.length (chgText_eq h).2.2.2
  have e1 : (apA n s).table.data.toList.length = s.size + 1 := by show ((⟨#[120]⟩ : ByteArray) ++ s).size = _; exact x_size s
  have e2 : s.data.toList.length = s.size := rfl
  simp only [List.length_append, textBytes_length, e1, e2] at h1
  have e3 : (rowBytes (apA n s).row).length = 10 := row2_len n
  rw [e3, row2_len] at h1
  omega⟩
theorem ap3 {tx seq n : Int} {s : ByteArray} (hs : s.size ≤ 40) (ht : 0 ≤ tx ∧ tx < 1000) (hq : 0 ≤ seq ∧ seq < 60) (hn : i64ok n) : ApR tx seq (apA n s) tx seq ⟨(⟨#[120]⟩ : ByteArray) ++ s, 2, [v2 n]⟩ := ⟨ap_ok (by rw [x_size]; omega) (.inr rfl) hn, fun h => by
  have h1 : byte1 1 = byte1 2 := (chgText_eq h).2.2.1
  revert h1; decide⟩
theorem ap4 {tx seq n : Int} {s : ByteArray} (hs : s.size ≤ 40) (ht : 0 ≤ tx ∧ tx < 1000) (hq : 0 ≤ seq ∧ seq < 60) (hn : i64ok n) {m : Int} (hm : i64ok m) (hne : m ≠ n) : ApR tx seq (apA n s) tx seq ⟨(⟨#[120]⟩ : ByteArray) ++ s, 1, [v2 m]⟩ := ⟨ap_ok (by rw [x_size]; omega) (.inl rfl) hm, fun h => by
  have h1 := (List.append_inj (chgText_eq h).2.2.2 rfl).2
  exact hne (row2_inj hn hm (textBytes_inj (by show (rowBytes [v2 n]).length ≤ _; rw [row2_len]; omega) (by rw [row2_len]; omega) h1)).symm⟩
/-- A literal row of one value. -/
theorem v2_sl (w : World) (n : Int) : Sl (w.alloc (.cells #[.int .i64 2, .int .i64 n, .string ⟨#[]⟩] 43)) (w.alloc (.cells #[.int .i64 2, .int .i64 n, .string ⟨#[]⟩] 43)).heap.size 3 (.slice (some ⟨w.heap.size, 0, none⟩) 1 1) 1 (valCells [v2 n]) := by
  have := Sl.new w #[.int .i64 2, .int .i64 n, .string ⟨#[]⟩] 43 1 3 rfl (by simp [maxLen])
  exact this.more (by simp)

theorem xor1 {n : Int} (hn : i64ok n) : i64ok (bits .xor .i64 n 1) ∧ bits .xor .i64 n 1 ≠ n := by
  obtain ⟨h1, h2⟩ := hn
  have e : bits .xor .i64 n 1 = IntKind.i64.wrap ((BitVec.ofInt 64 n ^^^ BitVec.ofInt 64 1).toNat : Int) := rfl
  have hlt := (BitVec.ofInt 64 n ^^^ BitVec.ofInt 64 1).isLt
  rw [e, IntKind.wrap_i64]
  refine ⟨⟨by omega, by omega⟩, fun h => ?_⟩
  have hb : ((BitVec.ofInt 64 n).toNat : Int) = n % 18446744073709551616 := by
    rw [BitVec.toNat_ofInt]
    omega
  have hy : (BitVec.ofInt 64 n ^^^ BitVec.ofInt 64 1).toNat = (BitVec.ofInt 64 n).toNat := by omega
  have hx : BitVec.ofInt 64 n ^^^ BitVec.ofInt 64 1 = BitVec.ofInt 64 n := BitVec.eq_of_toNat_eq hy
  have hz := congrArg (fun b => BitVec.ofInt 64 n ^^^ b) hx
  simp only [BitVec.xor_self, ← BitVec.xor_assoc, BitVec.zero_xor] at hz
  exact absurd hz (by decide)
set_option maxRecDepth 100000 in
set_option maxHeartbeats 16000000 in
theorem LedgerApart_walk (tx0 seq0 wh n : Int) (s : ByteArray) (w : World) (h0 : i64ok tx0) (h1 : i64ok seq0) (h2 : i64ok wh) (hn : i64ok n) (hsm : s.size ≤ maxLen) :
    Calls Try.prog 4 #[.int .i64 tx0, .int .i64 seq0, .int .i64 wh, .int .i64 n, .string s] w fun e w' => e = .returned (.bool true) ∧ Below w.heap.size w w' := by
  have hsi : (s.size : Int) ≤ 9223372036854775807 := by unfold maxLen at hsm; omega
  have KN := Lib.hid (known14_any w)
  by_cases h40 : 40 < s.size
  · have h40i : (40 : Int) < (s.size : Int) := by omega
    go_enter Try.func4, Try.ntmps4
    go_wp2_with fail
    refine KN.out.mono ?_
    rintro e w2 ⟨rfl, t2⟩
    have HB := Lib.hid (below_of' t2)
    clear t2
    go_wp2_with fail
    go_ret
    exact ⟨rfl, HB.out⟩
  have h40i : ¬ (40 : Int) < (s.size : Int) := by omega
  obtain ⟨tx, htx, htx0⟩ : ∃ x : Int, x = tx0 % 1000 ∧ 0 ≤ x ∧ x < 1000 := ⟨_, rfl, by omega, by omega⟩
  obtain ⟨seq, hsq, hsq0⟩ : ∃ x : Int, x = seq0 % 60 ∧ 0 ≤ x ∧ x < 60 := ⟨_, rfl, by omega, by omega⟩
  obtain ⟨wc5, hwc, hwc0⟩ : ∃ x : Int, x = wh % 5 ∧ 0 ≤ x ∧ x < 5 := ⟨_, rfl, by omega, by omega⟩
  have W1 := fun W => within14_any tx0 1000 W h0.1 h0.2 (by omega) (by omega)
  have W2 := fun W => within14_any seq0 60 W h1.1 h1.2 (by omega) (by omega)
  have W3 := fun W => within14_any wh 5 W h2.1 h2.2 (by omega) (by omega)
  rw [← htx] at W1
  rw [← hsq] at W2
  rw [← hwc] at W3
  have HW1 := Lib.hid W1
  have HW2 := Lib.hid W2
  have HW3 := Lib.hid W3
  have HNN := Lib.hid (And.intro hn (show s.size ≤ 40 by omega))
  have HTX := Lib.hid (And.intro htx0 hsq0)
  clear W1 W2 W3 htx hsq hwc h0 h1 h2 hn hsm h40
  go_enter Try.func4, Try.ntmps4
  go_wp2_with fail
  refine KN.out.mono ?_
  rintro e w2 ⟨rfl, t2⟩
  have HT2 := Lib.hid t2
  clear t2 KN
  go_wp2_with fail
  refine (HW1.out w2).mono ?_
  rintro e w3 ⟨rfl, rfl⟩
  go_wp2_with fail
  refine (HW2.out w2).mono ?_
  rintro e w3 ⟨rfl, rfl⟩
  clear HW1 HW2
  obtain ⟨tb, htb⟩ : ∃ x, x = (⟨#[120]⟩ : ByteArray) ++ s := ⟨_, rfl⟩
  obtain ⟨pr, hpr⟩ : ∃ x, x = w2.heap.size := ⟨_, rfl⟩
  obtain ⟨x3, hx3⟩ : ∃ x, x = w2.alloc (.cells #[.int .i64 2, .int .i64 n, .string ⟨#[]⟩] 43) := ⟨_, rfl⟩
  have hs3 : x3.heap.size = pr + 1 := by rw [hx3, hpr]; simp
  have sl3 := v2_sl w2 n
  rw [← hx3, ← hpr] at sl3
  have t3 : Turns [] w2 x3 := by rw [hx3]; exact (Turns.refl _ _).alloc _
  obtain ⟨x4, hx4⟩ : ∃ x, x = x3.alloc (.cells #[.string tb, .int .i64 1, .slice (some ⟨pr, 0, none⟩) 1 1] 33) := ⟨_, rfl⟩
  have b11 := Blk.new x3 [.string tb, .int .i64 1, .slice (some ⟨pr, 0, none⟩) 1 1] 33
  rw [show x3.alloc (.cells [.string tb, .int .i64 1, .slice (some ⟨pr, 0, none⟩) 1 1].toArray 33) = x4 from hx4.symm, hs3] at b11
  have hs4 : x4.heap.size = pr + 1 + 1 := by rw [hx4]; simp [hs3]
  have t4 : Turns [] x3 x4 := by rw [hx4]; exact (Turns.refl _ _).alloc _
  obtain ⟨x5, hx5⟩ : ∃ x, x = x4.alloc (.cells #[.string tb, .int .i64 1, .slice (some ⟨pr, 0, none⟩) 1 1] 33) := ⟨_, rfl⟩
  have b12 := Blk.new x4 [.string tb, .int .i64 1, .slice (some ⟨pr, 0, none⟩) 1 1] 33
  rw [show x4.alloc (.cells [.string tb, .int .i64 1, .slice (some ⟨pr, 0, none⟩) 1 1].toArray 33) = x5 from hx5.symm, hs4] at b12
  have hs5 : x5.heap.size = pr + 3 := by rw [hx5]; simp [hs4]
  have t5 : Turns [] x4 x5 := by rw [hx5]; exact (Turns.refl _ _).alloc _
  have sl5 := ((t4.trans t5 (by simp)).slice sl3 (Nat.le_refl _) (by simp))
  have t25 := (t3.trans t4 (by simp)).trans t5 (by simp)
  have k0 := b12.cell 0
  have k1 := b12.cell 1
  have k2 := b12.cell 2
  have z0 := b12.free 0
  have z1 := b12.free 1
  have z2 := b12.free 2
  simp only [List.getElem?_cons_zero, List.getElem?_cons_succ] at k0 k1 k2
  have HX := Lib.hid (And.intro htb (And.intro hpr (And.intro hx3 (And.intro hx4 hx5))))
  have HS := Lib.hid (And.intro hs3 (And.intro hs4 hs5))
  have H5 := Lib.hid (And.intro (b11.turns t5 (by simp)) (And.intro b12 (And.intro sl5 (And.intro t25 (show x3.heap.size ≤ x5.heap.size by omega)))))
  clear htb hpr hx3 hs3 sl3 t3 hx4 b11 hs4 t4 hx5 b12 hs5 t5 sl5 t25
  go_upto_region 9 with fail
  rw [← HX.out.1, ← HX.out.2.1, ← HX.out.2.2.1, ← HX.out.2.2.2.1, ← HX.out.2.2.2.2]
  go_wp2_with fail
  refine (HW3.out x5).mono ?_
  rintro e w3 ⟨rfl, rfl⟩
  go_upto_block 0 with fail
  go_cut [13, 14] (fun u13 u14 wx => ∃ (i k : Int) (b : Chg) (rv : Value), u13 = .int .i64 i ∧ u14 = .int .i64 k ∧ ApR tx seq (apA n s) i k b ∧ Blk wx (pr + 1 + 1) [.string b.table, .int .i64 b.op, rv] 33 ∧ Sl wx wx.heap.size 3 rv b.row.length (valCells b.row) ∧ Turns [pr + 1 + 1] x5 wx)
  case first =>
    have hd : wc5 = 0 ∨ wc5 = 1 ∨ wc5 = 2 ∨ wc5 = 3 ∨ wc5 = 4 := by omega
    have htb := HX.out.1
    have hbs := H5.out.2.1
    have hsl := H5.out.2.2.1
    have hse := H5.out.2.2.2.2
    have A0 := Lib.hid (ap0 HNN.out.2 HTX.out.1 HTX.out.2 HNN.out.1)
    have A1 := Lib.hid (ap1 HNN.out.2 HTX.out.1 HTX.out.2 HNN.out.1)
    have A2 := Lib.hid (ap2 HNN.out.2 HTX.out.1 HTX.out.2 HNN.out.1)
    have A3 := Lib.hid (ap3 HNN.out.2 HTX.out.1 HTX.out.2 HNN.out.1)
    have HSL := Lib.hid (And.intro htb (And.intro hbs (And.intro (hsl.more hse) hse)))
    have wr1 : IntKind.i64.wrap (tx + 1) = tx + 1 := IntWalk.i64_in _ (by have := HTX.out; omega)
    have wr2 : IntKind.i64.wrap (seq + 1) = seq + 1 := IntWalk.i64_in _ (by have := HTX.out; omega)
    clear htb hbs hsl hse hwc0 HW3
    rcases hd with rfl | rfl | rfl | rfl | rfl
    · go_wp2_with fail
      go_meet
      exact ⟨_, _, _, _, rfl, rfl, A0.out, by show Blk x5 _ [.string ((⟨#[120]⟩ : ByteArray) ++ s), _, _] _; rw [← HSL.out.1]; exact HSL.out.2.1, HSL.out.2.2.1, Turns.refl _ _⟩
    · go_wp2_with fail
      go_meet
      exact ⟨_, _, _, _, rfl, rfl, A1.out, by show Blk x5 _ [.string ((⟨#[120]⟩ : ByteArray) ++ s), _, _] _; rw [← HSL.out.1]; exact HSL.out.2.1, HSL.out.2.2.1, Turns.refl _ _⟩
    · go_wp2_with fail
      go_meet
      have tt : Turns [pr + 1 + 1] x5 (x5.setCell ⟨pr + 1 + 1, 0, none⟩ (.string s)) := (Turns.refl _ _).setCell (.inl (by simp)) _
      exact ⟨_, _, _, _, rfl, rfl, A2.out, HSL.out.2.1.set 0 _, tt.slice HSL.out.2.2.1 (Nat.le_refl _) (by simp [Value.ownBlock] <;> omega) |>.more tt.size, tt⟩
    · go_wp2_with fail
      go_meet
      have tt : Turns [pr + 1 + 1] x5 (x5.setCell ⟨pr + 1 + 1, 1, none⟩ (.int .i64 2)) := (Turns.refl _ _).setCell (.inl (by simp)) _
      exact ⟨_, _, _, _, rfl, rfl, A3.out, by have := HSL.out.2.1.set 1 (.int .i64 2); rw [HSL.out.1] at this; exact this, tt.slice HSL.out.2.2.1 (Nat.le_refl _) (by simp [Value.ownBlock] <;> omega) |>.more tt.size, tt⟩
    · obtain ⟨hm1, hm2⟩ := xor1 HNN.out.1
      have A4 := Lib.hid (ap4 HNN.out.2 HTX.out.1 HTX.out.2 HNN.out.1 hm1 hm2)
      clear hm1 hm2
      have b6 := HSL.out.2.1.alloc (.cells #[.int .i64 2, .int .i64 (bits .xor .i64 n 1), .string ⟨#[]⟩] 43)
      have k26 := b6.cell 2
      have z26 := b6.free 2
      simp only [List.getElem?_cons_zero, List.getElem?_cons_succ] at k26
      have sl6 := v2_sl x5 (bits .xor .i64 n 1)
      have t6 : Turns [] x5 (x5.alloc (.cells #[.int .i64 2, .int .i64 (bits .xor .i64 n 1), .string ⟨#[]⟩] 43)) := (Turns.refl _ _).alloc _
      have hbl := HSL.out.2.1.lt
      have H6 := Lib.hid (And.intro b6 (And.intro sl6 (And.intro t6 hbl)))
      clear b6 sl6 t6 hbl
      go_wp2_with fail
      go_meet
      obtain ⟨b6, sl6, t6, hbl⟩ := H6.out
      generalize x5.alloc (.cells #[.int .i64 2, .int .i64 (bits .xor .i64 n 1), .string ⟨#[]⟩] 43) = x6 at *
      have tt : Turns [pr + 1 + 1] x6 (x6.setCell ⟨pr + 1 + 1, 2, none⟩ (.slice (some ⟨x5.heap.size, 0, none⟩) 1 1)) := (Turns.refl _ _).setCell (.inl (by simp)) _
      exact ⟨_, _, _, _, rfl, rfl, A4.out, by have := b6.set 2 (.slice (some ⟨x5.heap.size, 0, none⟩) 1 1); rw [HSL.out.1] at this; exact this, tt.slice sl6 (Nat.le_refl _) (by simp [Value.ownBlock]; omega) |>.more tt.size, (t6.mono (by simp)).trans tt (fun x hx => .inl hx)⟩
  case rest =>
    obtain ⟨i, k, b, rv, rfl, rfl, ap, b12, slb, tx⟩ := hcut
    clear k0 k1 k2 z0 z1 z2 HW3
    obtain ⟨Ar, cr, rfl, _⟩ := slb.form
    obtain ⟨Y, hY⟩ : ∃ x, x = wc.drew := ⟨_, rfl⟩
    have tY : Turns [] wc Y := by rw [hY]; exact (Turns.refl _ _).drew
    have HYY := Lib.hid hY
    have hpr := HX.out.2.1
    have hwb := below_of' HT2.out
    have t2c : Turns [] w2 wc := H5.out.2.2.2.1.trans tx (by intro x hx; simp at hx; exact .inr (by omega))
    have R11 := ((H5.out.1.turns tx (by simp)).turns tY (by simp)).all
    have R12 := (b12.turns tY (by simp)).all
    have sla : Sl Y Y.heap.size 3 (.slice (some ⟨pr, 0, none⟩) 1 1) 1 (valCells [v2 n]) := ((tY.slice ((tx.slice H5.out.2.2.1 H5.out.2.2.2.2 (by simp [Value.ownBlock] <;> omega)).more (Nat.le_trans H5.out.2.2.2.2 tx.size)) (Nat.le_refl _) (by simp)).more tY.size)
    have slb2 := (tY.slice slb (Nat.le_refl _) (by simp)).more tY.size
    have hz1 := size_chg tb 1 (.slice (some ⟨pr, 0, none⟩) 1 1)
    have hz2 := size_chg b.table b.op (.slice Ar b.row.length cr)
    have haok : (apA n s).ok := ap_ok (by rw [x_size]; have := HNN.out.2; omega) (.inl rfl) HNN.out.1
    have HA := Lib.hid (And.intro haok (And.intro sla (And.intro slb2 (And.intro ap (HT2.out.trans (t2c.trans tY (by simp)) (by simp))))))
    have S0 : Turns [] Y Y := Turns.refl _ _
    have HTB := Lib.hid HX.out.1
    clear hY tY hpr hwb t2c sla slb slb2 haok ap b12 tx
    go_upto_region 20 with fail
    refine reg_begin (fun W => Turns [] Y W) (fun _ => True) 10 10 #[false, false, false, false, false, false, false, false, false, false] (by kernel_rfl) (by kernel_rfl) (by kernel_rfl) ?_
    rw [← HYY.out]
    refine reg_take 0 59 9 #[true, false, false, false, false, false, false, false, false, false] (by rfl) (v := ?_) rfl rfl (by kernel_rfl) (by kernel_rfl) (by kernel_rfl) (by kernel_rfl) (fun _ _ _ h => h) (by rfl) ?_ (Till.mk' S0 trivial) ?_
    rotate_left
    · intro W hS; go_simp; all_goals with_reducible rfl
    try simp only [List.setIfInBounds_toArray, List.set_cons_succ, List.set_cons_zero]
    refine reg_take 1 60 8 #[true, true, false, false, false, false, false, false, false, false] (by rfl) (v := ?_) rfl rfl (by kernel_rfl) (by kernel_rfl) (by kernel_rfl) (by kernel_rfl) (fun _ _ _ h => h) (by rfl) ?_ (Till.mk' S0 trivial) ?_
    rotate_left
    · intro W hS; go_simp; all_goals with_reducible rfl
    try simp only [List.setIfInBounds_toArray, List.set_cons_succ, List.set_cons_zero]
    refine reg_take_y 2 61 7 #[true, true, true, false, false, false, false, false, false, false] (by rfl) rfl rfl (by kernel_rfl) (by kernel_rfl) (by kernel_rfl) (by kernel_rfl) (fun _ _ _ h => h) (yieldsIf_load_mid (by rfl) _ _ rfl (pr + 1) 0 (by rfl) _ _ (fun W hS => rangeV hS R11) Try.underlying33 rfl hz1) (Till.mk' S0 trivial) ?_
    try simp only [List.setIfInBounds_toArray, List.set_cons_succ, List.set_cons_zero]
    refine reg_take 4 63 6 #[true, true, true, false, true, false, false, false, false, false] (by rfl) (v := ?_) rfl rfl (by kernel_rfl) (by kernel_rfl) (by kernel_rfl) (by kernel_rfl) (fun _ _ _ h => h) (by rfl) ?_ (Till.mk' S0 trivial) ?_
    rotate_left
    · intro W hS; go_simp; all_goals with_reducible rfl
    try simp only [List.setIfInBounds_toArray, List.set_cons_succ, List.set_cons_zero]
    refine reg_take 5 64 5 #[true, true, true, false, true, true, false, false, false, false] (by rfl) (v := ?_) rfl rfl (by kernel_rfl) (by kernel_rfl) (by kernel_rfl) (by kernel_rfl) (fun _ _ _ h => h) (by rfl) ?_ (Till.mk' S0 trivial) ?_
    rotate_left
    · intro W hS; go_simp; all_goals with_reducible rfl
    try simp only [List.setIfInBounds_toArray, List.set_cons_succ, List.set_cons_zero]
    refine reg_take_y 6 65 4 #[true, true, true, false, true, true, true, false, false, false] (by rfl) rfl rfl (by kernel_rfl) (by kernel_rfl) (by kernel_rfl) (by kernel_rfl) (fun _ _ _ h => h) (yieldsIf_load_mid (by rfl) _ _ rfl (pr + 1 + 1) 0 (by rfl) _ _ (fun W hS => rangeV hS R12) Try.underlying33 rfl hz2) (Till.mk' S0 trivial) ?_
    try simp only [List.setIfInBounds_toArray, List.set_cons_succ, List.set_cons_zero]
    refine reg_one 3 3 #[true, true, true, true, true, true, true, false, false, false] (by kernel_rfl) rfl (by rfl) (by kernel_rfl) (fun K hK => ?_)
    go_simp
    refine (((show (apA n s).table = tb from HTB.out.symm) ▸ RowText_any tx seq (apA n s) HA.out.1 (.slice (some ⟨pr, 0, none⟩) 1 1) Y (((Turns.refl [] Y).slice HA.out.2.1 (Nat.le_refl _) (by simp)).more (Turns.refl [] Y).size) : Calls Try.prog _ #[.int .i64 tx, .int .i64 seq, .agg #[.string tb, .int .i64 1, .slice (some ⟨pr, 0, none⟩) 1 1]] Y _)).mono ?_
    rintro e X62 ⟨A62, c62, rfl, m62⟩
    have D62 := m62.turns
    refine hK _ _ (Till.mk' ((Turns.refl [] Y).trans D62 (by simp)) trivial) ?_
    clear hK K
    try simp only [List.setIfInBounds_toArray, List.set_cons_succ, List.set_cons_zero]
    refine reg_one 7 2 #[true, true, true, true, true, true, true, true, false, false] (by kernel_rfl) rfl (by rfl) (by kernel_rfl) (fun K hK => ?_)
    go_simp
    refine (RowText_any i k b HA.out.2.2.2.1.ok (.slice Ar b.row.length cr) X62 ((((Turns.refl [] Y).trans D62 (by simp)).slice HA.out.2.2.1 (Nat.le_refl _) (by simp)).more ((Turns.refl [] Y).trans D62 (by simp)).size)).mono ?_
    rintro e X66 ⟨A66, c66, rfl, m66⟩
    have D66 := m66.turns
    refine hK _ _ (Till.mk' (((Turns.refl [] Y).trans D62 (by simp)).trans D66 (by simp)) trivial) ?_
    clear hK K
    try simp only [List.setIfInBounds_toArray, List.set_cons_succ, List.set_cons_zero]
    refine reg_take 8 15 1 #[true, true, true, true, true, true, true, true, true, false] (by rfl) (v := ?_) rfl rfl (by kernel_rfl) (by kernel_rfl) (by kernel_rfl) (by kernel_rfl) (fun _ _ _ h => h) (by rfl) ?_ (Till.mk' (((Turns.refl [] Y).trans D62 (by simp)).trans D66 (by simp)) trivial) ?_
    rotate_left
    · intro W hS; go_simp; all_goals with_reducible rfl
    try simp only [List.setIfInBounds_toArray, List.set_cons_succ, List.set_cons_zero]
    refine reg_take 9 16 0 #[true, true, true, true, true, true, true, true, true, true] (by rfl) (v := ?_) rfl rfl (by kernel_rfl) (by kernel_rfl) (by kernel_rfl) (by kernel_rfl) (fun _ _ _ h => h) (by rfl) ?_ (Till.mk' (((Turns.refl [] Y).trans D62 (by simp)).trans D66 (by simp)) trivial) ?_
    rotate_left
    · intro W hS; go_simp; all_goals with_reducible rfl
    try simp only [List.setIfInBounds_toArray, List.set_cons_succ, List.set_cons_zero]
    refine reg_done (by kernel_rfl) ?_ _
    clear D62 D66
    obtain ⟨P, hP⟩ : ∃ x, x = chgText tx seq (apA n s) := ⟨_, rfl⟩
    obtain ⟨Q, hQ⟩ : ∃ x, x = chgText i k b := ⟨_, rfl⟩
    rw [← hP] at m62 ⊢
    rw [← hQ] at m66 ⊢
    have hPQ : P ≠ Q := by rw [hP, hQ]; exact HA.out.2.2.2.1.ne
    have hcv1 := conv_str (P := Try.prog) (dst := 9) (src := 44) (e := 5) (m62.on m66.turns).sl Try.underlying44 Try.underlying5 Try.underlying9
    have hcv2 := conv_str (P := Try.prog) (dst := 9) (src := 44) (e := 5) m66.sl Try.underlying44 Try.underlying5 Try.underlying9
    have hne : ((strOf P).toList == (strOf Q).toList) = false := by rw [strOf_toList, strOf_toList]; simpa using hPQ
    have hne2 : (P == Q) = false := by simpa using hPQ
    have HTX6 := Lib.hid (m62.turns.trans m66.turns (by simp))
    clear m62 m66 hP hQ hPQ S0
    go_upto_region 23 with fail
    obtain ⟨Z, hZ⟩ : ∃ x, x = X66.drew := ⟨_, rfl⟩
    have tZ : Turns [] X66 Z := by rw [hZ]; exact (Turns.refl _ _).drew
    have HZZ := Lib.hid hZ
    have tYZ := HTX6.out.trans tZ (by simp)
    have R11 := rangeV tYZ R11
    have R12 := rangeV tYZ R12
    have HAZ := Lib.hid (And.intro HA.out.1 (And.intro ((tYZ.slice HA.out.2.1 (Nat.le_refl _) (by simp)).more tYZ.size) (And.intro ((tYZ.slice HA.out.2.2.1 (Nat.le_refl _) (by simp)).more tYZ.size) (HA.out.2.2.2.2.trans tYZ (by simp)))))
    have eqx := eqlH (chgSum tx seq (apA n s)) (chgSum i k b) (chgSum_len _ _ _) (chgSum_len _ _ _)
    have S0 : Turns [] Z Z := Turns.refl _ _
    clear hZ tZ tYZ hcv1 hcv2 hne hne2
    cases hsum : chgSum tx seq (apA n s) == chgSum i k b
    · rw [hsum] at eqx
      refine reg_begin (fun W => Turns [] Z W) (fun _ => True) 21 21 #[false, false, false, false, false, false, false, false, false, false, false, false, false, false, false, false, false, false, false, false, false] (by kernel_rfl) (by kernel_rfl) (by kernel_rfl) ?_
      rw [← HZZ.out]
      refine reg_take 0 72 20 #[true, false, false, false, false, false, false, false, false, false, false, false, false, false, false, false, false, false, false, false, false] (by rfl) (v := ?_) rfl rfl (by kernel_rfl) (by kernel_rfl) (by kernel_rfl) (by kernel_rfl) (fun _ _ _ h => h) (by rfl) ?_ (Till.mk' S0 trivial) ?_
      rotate_left
      · intro W hS; go_simp; all_goals with_reducible rfl
      try simp only [List.setIfInBounds_toArray, List.set_cons_succ, List.set_cons_zero]
      refine reg_take 1 73 19 #[true, true, false, false, false, false, false, false, false, false, false, false, false, false, false, false, false, false, false, false, false] (by rfl) (v := ?_) rfl rfl (by kernel_rfl) (by kernel_rfl) (by kernel_rfl) (by kernel_rfl) (fun _ _ _ h => h) (by rfl) ?_ (Till.mk' S0 trivial) ?_
      rotate_left
      · intro W hS; go_simp; all_goals with_reducible rfl
      try simp only [List.setIfInBounds_toArray, List.set_cons_succ, List.set_cons_zero]
      refine reg_take_y 2 74 18 #[true, true, true, false, false, false, false, false, false, false, false, false, false, false, false, false, false, false, false, false, false] (by rfl) rfl rfl (by kernel_rfl) (by kernel_rfl) (by kernel_rfl) (by kernel_rfl) (fun _ _ _ h => h) (yieldsIf_load_mid (by rfl) _ _ rfl (pr + 1) 0 (by rfl) _ _ (fun W hS => rangeV hS R11) Try.underlying33 rfl hz1) (Till.mk' S0 trivial) ?_
      try simp only [List.setIfInBounds_toArray, List.set_cons_succ, List.set_cons_zero]
      refine reg_take 4 76 17 #[true, true, true, false, true, false, false, false, false, false, false, false, false, false, false, false, false, false, false, false, false] (by rfl) (v := ?_) rfl rfl (by kernel_rfl) (by kernel_rfl) (by kernel_rfl) (by kernel_rfl) (fun _ _ _ h => h) (by rfl) ?_ (Till.mk' S0 trivial) ?_
      rotate_left
      · intro W hS; go_simp; all_goals with_reducible rfl
      try simp only [List.setIfInBounds_toArray, List.set_cons_succ, List.set_cons_zero]
      refine reg_take 5 77 16 #[true, true, true, false, true, true, false, false, false, false, false, false, false, false, false, false, false, false, false, false, false] (by rfl) (v := ?_) rfl rfl (by kernel_rfl) (by kernel_rfl) (by kernel_rfl) (by kernel_rfl) (fun _ _ _ h => h) (by rfl) ?_ (Till.mk' S0 trivial) ?_
      rotate_left
      · intro W hS; go_simp; all_goals with_reducible rfl
      try simp only [List.setIfInBounds_toArray, List.set_cons_succ, List.set_cons_zero]
      refine reg_take_y 6 78 15 #[true, true, true, false, true, true, true, false, false, false, false, false, false, false, false, false, false, false, false, false, false] (by rfl) rfl rfl (by kernel_rfl) (by kernel_rfl) (by kernel_rfl) (by kernel_rfl) (fun _ _ _ h => h) (yieldsIf_load_mid (by rfl) _ _ rfl (pr + 1 + 1) 0 (by rfl) _ _ (fun W hS => rangeV hS R12) Try.underlying33 rfl hz2) (Till.mk' S0 trivial) ?_
      try simp only [List.setIfInBounds_toArray, List.set_cons_succ, List.set_cons_zero]
      refine reg_one 3 14 #[true, true, true, true, true, true, true, false, false, false, false, false, false, false, false, false, false, false, false, false, false] (by kernel_rfl) rfl (by rfl) (by kernel_rfl) (fun K hK => ?_)
      go_simp
      refine (((show (apA n s).table = tb from HTB.out.symm) ▸ CRow_any tx seq (apA n s) HAZ.out.1 (.slice (some ⟨pr, 0, none⟩) 1 1) Z (((Turns.refl [] Z).slice HAZ.out.2.1 (Nat.le_refl _) (by simp)).more (Turns.refl [] Z).size) : Calls Try.prog _ #[.int .i64 tx, .int .i64 seq, .agg #[.string tb, .int .i64 1, .slice (some ⟨pr, 0, none⟩) 1 1]] Z _)).mono ?_
      rintro e X75 ⟨rfl, D75⟩
      refine hK _ _ (Till.mk' ((Turns.refl [] Z).trans D75 (by simp)) trivial) ?_
      clear hK K
      try simp only [List.setIfInBounds_toArray, List.set_cons_succ, List.set_cons_zero]
      refine reg_one 7 13 #[true, true, true, true, true, true, true, true, false, false, false, false, false, false, false, false, false, false, false, false, false] (by kernel_rfl) rfl (by rfl) (by kernel_rfl) (fun K hK => ?_)
      go_simp
      refine (CRow_any i k b HA.out.2.2.2.1.ok (.slice Ar b.row.length cr) X75 ((((Turns.refl [] Z).trans D75 (by simp)).slice HAZ.out.2.2.1 (Nat.le_refl _) (by simp)).more ((Turns.refl [] Z).trans D75 (by simp)).size)).mono ?_
      rintro e X79 ⟨rfl, D79⟩
      refine hK _ _ (Till.mk' (((Turns.refl [] Z).trans D75 (by simp)).trans D79 (by simp)) trivial) ?_
      clear hK K
      try simp only [List.setIfInBounds_toArray, List.set_cons_succ, List.set_cons_zero]
      refine reg_take 8 80 12 #[true, true, true, true, true, true, true, true, true, false, false, false, false, false, false, false, false, false, false, false, false] (by rfl) (v := ?_) rfl rfl (by kernel_rfl) (by kernel_rfl) (by kernel_rfl) (by kernel_rfl) (fun _ _ _ h => h) (by rfl) ?_ (Till.mk' (((Turns.refl [] Z).trans D75 (by simp)).trans D79 (by simp)) trivial) ?_
      rotate_left
      · intro W hS; go_simp; all_goals with_reducible rfl
      try simp only [List.setIfInBounds_toArray, List.set_cons_succ, List.set_cons_zero]
      refine reg_take 9 81 11 #[true, true, true, true, true, true, true, true, true, true, false, false, false, false, false, false, false, false, false, false, false] (by rfl) (v := ?_) rfl rfl (by kernel_rfl) (by kernel_rfl) (by kernel_rfl) (by kernel_rfl) (fun _ _ _ h => h) (by rfl) ?_ (Till.mk' (((Turns.refl [] Z).trans D75 (by simp)).trans D79 (by simp)) trivial) ?_
      rotate_left
      · intro W hS; go_simp; all_goals with_reducible rfl
      try simp only [List.setIfInBounds_toArray, List.set_cons_succ, List.set_cons_zero]
      refine reg_skip 10 82 10 #[true, true, true, true, true, true, true, true, true, true, true, false, false, false, false, false, false, false, false, false, false] (by rfl) rfl rfl (by kernel_rfl) (by kernel_rfl) (by kernel_rfl) (by kernel_rfl) (fun _ _ _ h => h) (by rfl) (Till.mk' (((Turns.refl [] Z).trans D75 (by simp)).trans D79 (by simp)) trivial) ?_
      try simp only [List.setIfInBounds_toArray, List.set_cons_succ, List.set_cons_zero]
      refine reg_skip 11 83 9 #[true, true, true, true, true, true, true, true, true, true, true, true, false, false, false, false, false, false, false, false, false] (by rfl) rfl rfl (by kernel_rfl) (by kernel_rfl) (by kernel_rfl) (by kernel_rfl) (fun _ _ _ h => h) (by rfl) (Till.mk' (((Turns.refl [] Z).trans D75 (by simp)).trans D79 (by simp)) trivial) ?_
      try simp only [List.setIfInBounds_toArray, List.set_cons_succ, List.set_cons_zero]
      refine reg_skip 12 84 8 #[true, true, true, true, true, true, true, true, true, true, true, true, true, false, false, false, false, false, false, false, false] (by rfl) rfl rfl (by kernel_rfl) (by kernel_rfl) (by kernel_rfl) (by kernel_rfl) (fun _ _ _ h => h) (by rfl) (Till.mk' (((Turns.refl [] Z).trans D75 (by simp)).trans D79 (by simp)) trivial) ?_
      try simp only [List.setIfInBounds_toArray, List.set_cons_succ, List.set_cons_zero]
      refine reg_skip 13 85 7 #[true, true, true, true, true, true, true, true, true, true, true, true, true, true, false, false, false, false, false, false, false] (by rfl) rfl rfl (by kernel_rfl) (by kernel_rfl) (by kernel_rfl) (by kernel_rfl) (fun _ _ _ h => h) (by rfl) (Till.mk' (((Turns.refl [] Z).trans D75 (by simp)).trans D79 (by simp)) trivial) ?_
      try simp only [List.setIfInBounds_toArray, List.set_cons_succ, List.set_cons_zero]
      refine reg_skip 14 86 6 #[true, true, true, true, true, true, true, true, true, true, true, true, true, true, true, false, false, false, false, false, false] (by rfl) rfl rfl (by kernel_rfl) (by kernel_rfl) (by kernel_rfl) (by kernel_rfl) (fun _ _ _ h => h) (by rfl) (Till.mk' (((Turns.refl [] Z).trans D75 (by simp)).trans D79 (by simp)) trivial) ?_
      try simp only [List.setIfInBounds_toArray, List.set_cons_succ, List.set_cons_zero]
      refine reg_skip 15 87 5 #[true, true, true, true, true, true, true, true, true, true, true, true, true, true, true, true, false, false, false, false, false] (by rfl) rfl rfl (by kernel_rfl) (by kernel_rfl) (by kernel_rfl) (by kernel_rfl) (fun _ _ _ h => h) (by rfl) (Till.mk' (((Turns.refl [] Z).trans D75 (by simp)).trans D79 (by simp)) trivial) ?_
      try simp only [List.setIfInBounds_toArray, List.set_cons_succ, List.set_cons_zero]
      refine reg_skip 16 88 4 #[true, true, true, true, true, true, true, true, true, true, true, true, true, true, true, true, true, false, false, false, false] (by rfl) rfl rfl (by kernel_rfl) (by kernel_rfl) (by kernel_rfl) (by kernel_rfl) (fun _ _ _ h => h) (by rfl) (Till.mk' (((Turns.refl [] Z).trans D75 (by simp)).trans D79 (by simp)) trivial) ?_
      try simp only [List.setIfInBounds_toArray, List.set_cons_succ, List.set_cons_zero]
      refine reg_skip 17 89 3 #[true, true, true, true, true, true, true, true, true, true, true, true, true, true, true, true, true, true, false, false, false] (by rfl) rfl rfl (by kernel_rfl) (by kernel_rfl) (by kernel_rfl) (by kernel_rfl) (fun _ _ _ h => h) (by rfl) (Till.mk' (((Turns.refl [] Z).trans D75 (by simp)).trans D79 (by simp)) trivial) ?_
      try simp only [List.setIfInBounds_toArray, List.set_cons_succ, List.set_cons_zero]
      refine reg_skip 18 90 2 #[true, true, true, true, true, true, true, true, true, true, true, true, true, true, true, true, true, true, true, false, false] (by rfl) rfl rfl (by kernel_rfl) (by kernel_rfl) (by kernel_rfl) (by kernel_rfl) (fun _ _ _ h => h) (by rfl) (Till.mk' (((Turns.refl [] Z).trans D75 (by simp)).trans D79 (by simp)) trivial) ?_
      try simp only [List.setIfInBounds_toArray, List.set_cons_succ, List.set_cons_zero]
      refine reg_take 19 91 1 #[true, true, true, true, true, true, true, true, true, true, true, true, true, true, true, true, true, true, true, true, false] (by rfl) (v := ?_) rfl rfl (by kernel_rfl) (by kernel_rfl) (by kernel_rfl) (by kernel_rfl) (fun _ _ _ h => h) (by rfl) ?_ (Till.mk' (((Turns.refl [] Z).trans D75 (by simp)).trans D79 (by simp)) trivial) ?_
      rotate_left
      · intro W hS; go_simp; all_goals with_reducible rfl
      try simp only [List.setIfInBounds_toArray, List.set_cons_succ, List.set_cons_zero]
      refine reg_take 20 10 0 #[true, true, true, true, true, true, true, true, true, true, true, true, true, true, true, true, true, true, true, true, true] (by rfl) (v := ?_) rfl rfl (by kernel_rfl) (by kernel_rfl) (by kernel_rfl) (by kernel_rfl) (fun _ _ _ h => h) (by rfl) ?_ (Till.mk' (((Turns.refl [] Z).trans D75 (by simp)).trans D79 (by simp)) trivial) ?_
      rotate_left
      · intro W hS; go_simp; all_goals with_reducible rfl
      try simp only [List.setIfInBounds_toArray, List.set_cons_succ, List.set_cons_zero]
      refine reg_done (by kernel_rfl) ?_ _
      have HEND := Lib.hid (below_of' (HAZ.out.2.2.2.trans (((Turns.refl [] Z).trans D75 (by simp)).trans D79 (by simp)) (by simp)))
      go_wp2_with fail
      go_ret
      exact ⟨rfl, HEND.out⟩
    · rw [hsum] at eqx
      refine reg_begin (fun W => Turns [] Z W) (fun _ => True) 21 21 #[false, false, false, false, false, false, false, false, false, false, false, false, false, false, false, false, false, false, false, false, false] (by kernel_rfl) (by kernel_rfl) (by kernel_rfl) ?_
      rw [← HZZ.out]
      refine reg_take 0 72 20 #[true, false, false, false, false, false, false, false, false, false, false, false, false, false, false, false, false, false, false, false, false] (by rfl) (v := ?_) rfl rfl (by kernel_rfl) (by kernel_rfl) (by kernel_rfl) (by kernel_rfl) (fun _ _ _ h => h) (by rfl) ?_ (Till.mk' S0 trivial) ?_
      rotate_left
      · intro W hS; go_simp; all_goals with_reducible rfl
      try simp only [List.setIfInBounds_toArray, List.set_cons_succ, List.set_cons_zero]
      refine reg_take 1 73 19 #[true, true, false, false, false, false, false, false, false, false, false, false, false, false, false, false, false, false, false, false, false] (by rfl) (v := ?_) rfl rfl (by kernel_rfl) (by kernel_rfl) (by kernel_rfl) (by kernel_rfl) (fun _ _ _ h => h) (by rfl) ?_ (Till.mk' S0 trivial) ?_
      rotate_left
      · intro W hS; go_simp; all_goals with_reducible rfl
      try simp only [List.setIfInBounds_toArray, List.set_cons_succ, List.set_cons_zero]
      refine reg_take_y 2 74 18 #[true, true, true, false, false, false, false, false, false, false, false, false, false, false, false, false, false, false, false, false, false] (by rfl) rfl rfl (by kernel_rfl) (by kernel_rfl) (by kernel_rfl) (by kernel_rfl) (fun _ _ _ h => h) (yieldsIf_load_mid (by rfl) _ _ rfl (pr + 1) 0 (by rfl) _ _ (fun W hS => rangeV hS R11) Try.underlying33 rfl hz1) (Till.mk' S0 trivial) ?_
      try simp only [List.setIfInBounds_toArray, List.set_cons_succ, List.set_cons_zero]
      refine reg_take 4 76 17 #[true, true, true, false, true, false, false, false, false, false, false, false, false, false, false, false, false, false, false, false, false] (by rfl) (v := ?_) rfl rfl (by kernel_rfl) (by kernel_rfl) (by kernel_rfl) (by kernel_rfl) (fun _ _ _ h => h) (by rfl) ?_ (Till.mk' S0 trivial) ?_
      rotate_left
      · intro W hS; go_simp; all_goals with_reducible rfl
      try simp only [List.setIfInBounds_toArray, List.set_cons_succ, List.set_cons_zero]
      refine reg_take 5 77 16 #[true, true, true, false, true, true, false, false, false, false, false, false, false, false, false, false, false, false, false, false, false] (by rfl) (v := ?_) rfl rfl (by kernel_rfl) (by kernel_rfl) (by kernel_rfl) (by kernel_rfl) (fun _ _ _ h => h) (by rfl) ?_ (Till.mk' S0 trivial) ?_
      rotate_left
      · intro W hS; go_simp; all_goals with_reducible rfl
      try simp only [List.setIfInBounds_toArray, List.set_cons_succ, List.set_cons_zero]
      refine reg_take_y 6 78 15 #[true, true, true, false, true, true, true, false, false, false, false, false, false, false, false, false, false, false, false, false, false] (by rfl) rfl rfl (by kernel_rfl) (by kernel_rfl) (by kernel_rfl) (by kernel_rfl) (fun _ _ _ h => h) (yieldsIf_load_mid (by rfl) _ _ rfl (pr + 1 + 1) 0 (by rfl) _ _ (fun W hS => rangeV hS R12) Try.underlying33 rfl hz2) (Till.mk' S0 trivial) ?_
      try simp only [List.setIfInBounds_toArray, List.set_cons_succ, List.set_cons_zero]
      refine reg_one 3 14 #[true, true, true, true, true, true, true, false, false, false, false, false, false, false, false, false, false, false, false, false, false] (by kernel_rfl) rfl (by rfl) (by kernel_rfl) (fun K hK => ?_)
      go_simp
      refine (((show (apA n s).table = tb from HTB.out.symm) ▸ CRow_any tx seq (apA n s) HAZ.out.1 (.slice (some ⟨pr, 0, none⟩) 1 1) Z (((Turns.refl [] Z).slice HAZ.out.2.1 (Nat.le_refl _) (by simp)).more (Turns.refl [] Z).size) : Calls Try.prog _ #[.int .i64 tx, .int .i64 seq, .agg #[.string tb, .int .i64 1, .slice (some ⟨pr, 0, none⟩) 1 1]] Z _)).mono ?_
      rintro e X75 ⟨rfl, D75⟩
      refine hK _ _ (Till.mk' ((Turns.refl [] Z).trans D75 (by simp)) trivial) ?_
      clear hK K
      try simp only [List.setIfInBounds_toArray, List.set_cons_succ, List.set_cons_zero]
      refine reg_one 7 13 #[true, true, true, true, true, true, true, true, false, false, false, false, false, false, false, false, false, false, false, false, false] (by kernel_rfl) rfl (by rfl) (by kernel_rfl) (fun K hK => ?_)
      go_simp
      refine (CRow_any i k b HA.out.2.2.2.1.ok (.slice Ar b.row.length cr) X75 ((((Turns.refl [] Z).trans D75 (by simp)).slice HAZ.out.2.2.1 (Nat.le_refl _) (by simp)).more ((Turns.refl [] Z).trans D75 (by simp)).size)).mono ?_
      rintro e X79 ⟨rfl, D79⟩
      refine hK _ _ (Till.mk' (((Turns.refl [] Z).trans D75 (by simp)).trans D79 (by simp)) trivial) ?_
      clear hK K
      try simp only [List.setIfInBounds_toArray, List.set_cons_succ, List.set_cons_zero]
      refine reg_take 8 80 12 #[true, true, true, true, true, true, true, true, true, false, false, false, false, false, false, false, false, false, false, false, false] (by rfl) (v := ?_) rfl rfl (by kernel_rfl) (by kernel_rfl) (by kernel_rfl) (by kernel_rfl) (fun _ _ _ h => h) (by rfl) ?_ (Till.mk' (((Turns.refl [] Z).trans D75 (by simp)).trans D79 (by simp)) trivial) ?_
      rotate_left
      · intro W hS; go_simp; all_goals with_reducible rfl
      try simp only [List.setIfInBounds_toArray, List.set_cons_succ, List.set_cons_zero]
      refine reg_take 9 81 11 #[true, true, true, true, true, true, true, true, true, true, false, false, false, false, false, false, false, false, false, false, false] (by rfl) (v := ?_) rfl rfl (by kernel_rfl) (by kernel_rfl) (by kernel_rfl) (by kernel_rfl) (fun _ _ _ h => h) (by rfl) ?_ (Till.mk' (((Turns.refl [] Z).trans D75 (by simp)).trans D79 (by simp)) trivial) ?_
      rotate_left
      · intro W hS; go_simp; all_goals with_reducible rfl
      try simp only [List.setIfInBounds_toArray, List.set_cons_succ, List.set_cons_zero]
      refine reg_take 10 82 10 #[true, true, true, true, true, true, true, true, true, true, true, false, false, false, false, false, false, false, false, false, false] (by rfl) (v := ?_) rfl rfl (by kernel_rfl) (by kernel_rfl) (by kernel_rfl) (by kernel_rfl) (fun _ _ _ h => h) (by rfl) ?_ (Till.mk' (((Turns.refl [] Z).trans D75 (by simp)).trans D79 (by simp)) trivial) ?_
      rotate_left
      · intro W hS; go_simp; all_goals with_reducible rfl
      try simp only [List.setIfInBounds_toArray, List.set_cons_succ, List.set_cons_zero]
      refine reg_take 11 83 9 #[true, true, true, true, true, true, true, true, true, true, true, true, false, false, false, false, false, false, false, false, false] (by rfl) (v := ?_) rfl rfl (by kernel_rfl) (by kernel_rfl) (by kernel_rfl) (by kernel_rfl) (fun _ _ _ h => h) (by rfl) ?_ (Till.mk' (((Turns.refl [] Z).trans D75 (by simp)).trans D79 (by simp)) trivial) ?_
      rotate_left
      · intro W hS; go_simp; all_goals with_reducible rfl
      try simp only [List.setIfInBounds_toArray, List.set_cons_succ, List.set_cons_zero]
      refine reg_take_y 12 84 8 #[true, true, true, true, true, true, true, true, true, true, true, true, true, false, false, false, false, false, false, false, false] (by rfl) rfl rfl (by kernel_rfl) (by kernel_rfl) (by kernel_rfl) (by kernel_rfl) (fun _ _ _ h => h) (yieldsIf_load_mid (by rfl) _ _ rfl (pr + 1) 0 (by rfl) _ _ (fun W hS => rangeV hS R11) Try.underlying33 rfl hz1) (Till.mk' (((Turns.refl [] Z).trans D75 (by simp)).trans D79 (by simp)) trivial) ?_
      try simp only [List.setIfInBounds_toArray, List.set_cons_succ, List.set_cons_zero]
      refine reg_take 14 86 7 #[true, true, true, true, true, true, true, true, true, true, true, true, true, false, true, false, false, false, false, false, false] (by rfl) (v := ?_) rfl rfl (by kernel_rfl) (by kernel_rfl) (by kernel_rfl) (by kernel_rfl) (fun _ _ _ h => h) (by rfl) ?_ (Till.mk' (((Turns.refl [] Z).trans D75 (by simp)).trans D79 (by simp)) trivial) ?_
      rotate_left
      · intro W hS; go_simp; all_goals with_reducible rfl
      try simp only [List.setIfInBounds_toArray, List.set_cons_succ, List.set_cons_zero]
      refine reg_take 15 87 6 #[true, true, true, true, true, true, true, true, true, true, true, true, true, false, true, true, false, false, false, false, false] (by rfl) (v := ?_) rfl rfl (by kernel_rfl) (by kernel_rfl) (by kernel_rfl) (by kernel_rfl) (fun _ _ _ h => h) (by rfl) ?_ (Till.mk' (((Turns.refl [] Z).trans D75 (by simp)).trans D79 (by simp)) trivial) ?_
      rotate_left
      · intro W hS; go_simp; all_goals with_reducible rfl
      try simp only [List.setIfInBounds_toArray, List.set_cons_succ, List.set_cons_zero]
      refine reg_take_y 16 88 5 #[true, true, true, true, true, true, true, true, true, true, true, true, true, false, true, true, true, false, false, false, false] (by rfl) rfl rfl (by kernel_rfl) (by kernel_rfl) (by kernel_rfl) (by kernel_rfl) (fun _ _ _ h => h) (yieldsIf_load_mid (by rfl) _ _ rfl (pr + 1 + 1) 0 (by rfl) _ _ (fun W hS => rangeV hS R12) Try.underlying33 rfl hz2) (Till.mk' (((Turns.refl [] Z).trans D75 (by simp)).trans D79 (by simp)) trivial) ?_
      try simp only [List.setIfInBounds_toArray, List.set_cons_succ, List.set_cons_zero]
      refine reg_one 13 4 #[true, true, true, true, true, true, true, true, true, true, true, true, true, true, true, true, true, false, false, false, false] (by kernel_rfl) rfl (by rfl) (by kernel_rfl) (fun K hK => ?_)
      go_simp
      refine (((show (apA n s).table = tb from HTB.out.symm) ▸ RRow_any tx seq (apA n s) HAZ.out.1 (.slice (some ⟨pr, 0, none⟩) 1 1) X79 (((((Turns.refl [] Z).trans D75 (by simp)).trans D79 (by simp)).slice HAZ.out.2.1 (Nat.le_refl _) (by simp)).more (((Turns.refl [] Z).trans D75 (by simp)).trans D79 (by simp)).size) : Calls Try.prog _ #[.int .i64 tx, .int .i64 seq, .agg #[.string tb, .int .i64 1, .slice (some ⟨pr, 0, none⟩) 1 1]] X79 _)).mono ?_
      rintro e X85 ⟨rfl, D85⟩
      refine hK _ _ (Till.mk' ((((Turns.refl [] Z).trans D75 (by simp)).trans D79 (by simp)).trans D85 (by simp)) trivial) ?_
      clear hK K
      try simp only [List.setIfInBounds_toArray, List.set_cons_succ, List.set_cons_zero]
      refine reg_one 17 3 #[true, true, true, true, true, true, true, true, true, true, true, true, true, true, true, true, true, true, false, false, false] (by kernel_rfl) rfl (by rfl) (by kernel_rfl) (fun K hK => ?_)
      go_simp
      refine (RRow_any i k b HA.out.2.2.2.1.ok (.slice Ar b.row.length cr) X85 ((((((Turns.refl [] Z).trans D75 (by simp)).trans D79 (by simp)).trans D85 (by simp)).slice HAZ.out.2.2.1 (Nat.le_refl _) (by simp)).more ((((Turns.refl [] Z).trans D75 (by simp)).trans D79 (by simp)).trans D85 (by simp)).size)).mono ?_
      rintro e X89 ⟨rfl, D89⟩
      refine hK _ _ (Till.mk' (((((Turns.refl [] Z).trans D75 (by simp)).trans D79 (by simp)).trans D85 (by simp)).trans D89 (by simp)) trivial) ?_
      clear hK K
      try simp only [List.setIfInBounds_toArray, List.set_cons_succ, List.set_cons_zero]
      refine reg_take 18 90 2 #[true, true, true, true, true, true, true, true, true, true, true, true, true, true, true, true, true, true, true, false, false] (by rfl) (v := ?_) rfl rfl (by kernel_rfl) (by kernel_rfl) (by kernel_rfl) (by kernel_rfl) (fun _ _ _ h => h) (by rfl) ?_ (Till.mk' (((((Turns.refl [] Z).trans D75 (by simp)).trans D79 (by simp)).trans D85 (by simp)).trans D89 (by simp)) trivial) ?_
      rotate_left
      · intro W hS; go_simp; all_goals with_reducible rfl
      try simp only [List.setIfInBounds_toArray, List.set_cons_succ, List.set_cons_zero]
      refine reg_take 19 91 1 #[true, true, true, true, true, true, true, true, true, true, true, true, true, true, true, true, true, true, true, true, false] (by rfl) (v := ?_) rfl rfl (by kernel_rfl) (by kernel_rfl) (by kernel_rfl) (by kernel_rfl) (fun _ _ _ h => h) (by rfl) ?_ (Till.mk' (((((Turns.refl [] Z).trans D75 (by simp)).trans D79 (by simp)).trans D85 (by simp)).trans D89 (by simp)) trivial) ?_
      rotate_left
      · intro W hS; go_simp; all_goals with_reducible rfl
      try simp only [List.setIfInBounds_toArray, List.set_cons_succ, List.set_cons_zero]
      refine reg_take 20 10 0 #[true, true, true, true, true, true, true, true, true, true, true, true, true, true, true, true, true, true, true, true, true] (by rfl) (v := ?_) rfl rfl (by kernel_rfl) (by kernel_rfl) (by kernel_rfl) (by kernel_rfl) (fun _ _ _ h => h) (by rfl) ?_ (Till.mk' (((((Turns.refl [] Z).trans D75 (by simp)).trans D79 (by simp)).trans D85 (by simp)).trans D89 (by simp)) trivial) ?_
      rotate_left
      · intro W hS; go_simp; all_goals with_reducible rfl
      try simp only [List.setIfInBounds_toArray, List.set_cons_succ, List.set_cons_zero]
      refine reg_done (by kernel_rfl) ?_ _
      have HEND := Lib.hid (below_of' (HAZ.out.2.2.2.trans (((((Turns.refl [] Z).trans D75 (by simp)).trans D79 (by simp)).trans D85 (by simp)).trans D89 (by simp)) (by simp)))
      go_wp2_with fail
      go_ret
      exact ⟨rfl, HEND.out⟩
end Go.Proofs.Ytoahnhphfabajaa
