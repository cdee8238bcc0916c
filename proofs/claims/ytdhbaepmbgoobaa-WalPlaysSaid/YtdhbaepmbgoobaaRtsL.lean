/- What was written is read as it was: of numbers, bytes, texts, in plain lists. -/
import Derived.Test.YtdhbaepmbgoobaaWithinL
import Derived.Test.YtdhbaepmbgoobaaReader
import Derived.Test.YtdhbaepmbgoobaaNums
import Derived.Test.YtdhbaepmbgoobaaRef1
namespace Go.Proofs.Ytdhbaepmbgoobaa
open Go.RowKit
set_option linter.unusedVariables false
set_option maxRecDepth 10000
set_option linter.unusedSimpArgs false

theorem ok_take (s : RS) (n : Nat) (h : s.err = 0) (hl : n ≤ s.rest.length) : s.take n = (s.rest.take n, ⟨s.rest.drop n, 0⟩) := by
  have hc : s.cutIf n = s := by unfold RS.cutIf; rw [if_neg (by omega)]
  exact (take_good s n (by rw [hc]; exact h)).1

theorem byteAt_nat (n : Int) (k : Nat) : ((byteAt n k).toNat : Int) = IntKind.u64.wrap n / 2 ^ (8 * k) % 256 := by
  have h := u8v_byteAt n k
  unfold u8v at h
  injection h with _ h
  exact h.symm
theorem byte1_nat (n : Int) : ((byte1 n).toNat : Int) = n % 256 := by
  have h := u8v_byte1 n
  unfold u8v at h
  injection h with _ h
  exact h.symm
theorem le_le8 (n : Int) (h1 : -9223372036854775808 ≤ n) (h2 : n ≤ 9223372036854775807) : leInt (le8 n) = n := by
  have b0 := byteAt_nat n 0
  have b1 := byteAt_nat n 1
  have b2 := byteAt_nat n 2
  have b3 := byteAt_nat n 3
  have b4 := byteAt_nat n 4
  have b5 := byteAt_nat n 5
  have b6 := byteAt_nat n 6
  have b7 := byteAt_nat n 7
  have e : le8 n = [byteAt n 0, byteAt n 1, byteAt n 2, byteAt n 3, byteAt n 4, byteAt n 5, byteAt n 6, byteAt n 7] := rfl
  have hu : IntKind.u64.wrap n = n % 18446744073709551616 := by simp only [IntKind.wrap_u64]
  rw [hu] at b0 b1 b2 b3 b4 b5 b6 b7
  simp only [Nat.mul_zero, Nat.mul_one, Int.pow_zero, Nat.reduceMul, Int.reducePow] at b0 b1 b2 b3 b4 b5 b6 b7
  rw [e]
  simp only [leInt, leNat]
  generalize (byteAt n 0).toNat = x0 at *
  generalize (byteAt n 1).toNat = x1 at *
  generalize (byteAt n 2).toNat = x2 at *
  generalize (byteAt n 3).toNat = x3 at *
  generalize (byteAt n 4).toNat = x4 at *
  generalize (byteAt n 5).toNat = x5 at *
  generalize (byteAt n 6).toNat = x6 at *
  generalize (byteAt n 7).toNat = x7 at *
  clear e hu
  obtain ⟨m, hm⟩ : ∃ m, m = n % 18446744073709551616 := ⟨_, rfl⟩
  rw [← hm] at b0 b1 b2 b3 b4 b5 b6 b7
  have hm0 : 0 ≤ m := by omega
  have hm1 : m < 18446744073709551616 := by omega
  have d2 : m / 65536 = m / 256 / 256 := by rw [Int.ediv_ediv_of_nonneg (by omega)]; rfl
  have d3 : m / 16777216 = m / 256 / 256 / 256 := by rw [Int.ediv_ediv_of_nonneg (by omega), Int.ediv_ediv_of_nonneg (by omega)]; rfl
  have d4 : m / 4294967296 = m / 16777216 / 256 := by rw [Int.ediv_ediv_of_nonneg (by omega)]; rfl
  have d5 : m / 1099511627776 = m / 4294967296 / 256 := by rw [Int.ediv_ediv_of_nonneg (by omega)]; rfl
  have d6 : m / 281474976710656 = m / 1099511627776 / 256 := by rw [Int.ediv_ediv_of_nonneg (by omega)]; rfl
  have d7 : m / 72057594037927936 = m / 281474976710656 / 256 := by rw [Int.ediv_ediv_of_nonneg (by omega)]; rfl
  have l7 : m / 72057594037927936 < 256 := by omega
  have n7 : 0 ≤ m / 72057594037927936 := by omega
  rw [d2] at b2
  rw [d3] at b3
  rw [d3] at d4
  obtain ⟨q1, hq1⟩ : ∃ q, q = m / 256 := ⟨_, rfl⟩
  obtain ⟨q2, hq2⟩ : ∃ q, q = q1 / 256 := ⟨_, rfl⟩
  obtain ⟨q3, hq3⟩ : ∃ q, q = q2 / 256 := ⟨_, rfl⟩
  rw [← hq1, ← hq2] at b2
  rw [← hq1, ← hq2, ← hq3] at b3 d4
  rw [← hq1] at b1
  generalize m / 4294967296 = q4 at *
  generalize m / 1099511627776 = q5 at *
  generalize m / 281474976710656 = q6 at *
  generalize m / 72057594037927936 = q7 at *
  clear d2 d3
  have e0 : m = x0 + 256 * q1 := by omega
  have e1 : q1 = x1 + 256 * q2 := by omega
  have e2 : q2 = x2 + 256 * q3 := by omega
  have e3 : q3 = x3 + 256 * q4 := by omega
  have e4 : q4 = x4 + 256 * q5 := by omega
  have e5 : q5 = x5 + 256 * q6 := by omega
  have e6 : q6 = x6 + 256 * q7 := by omega
  have e7 : q7 = x7 := by omega
  clear b0 b1 b2 b3 b4 b5 b6 b7 hq1 hq2 hq3 d4 d5 d6 d7 l7 n7
  have hs : ((x0 + 256 * (x1 + 256 * (x2 + 256 * (x3 + 256 * (x4 + 256 * (x5 + 256 * (x6 + 256 * (x7 + 256 * 0))))))) : Nat) : Int) = m := by
    rw [e0, e1, e2, e3, e4, e5, e6, e7]
    omega
  rw [hs, IntKind.wrap_i64]
  clear e0 e1 e2 e3 e4 e5 e6 e7 hs
  omega
theorem le_byte1 (n : Int) : leInt [byte1 n] = n % 256 := by
  have := byte1_nat n
  simp only [leInt, leNat]
  generalize (byte1 n).toNat = x at *
  rw [IntKind.wrap_i64]
  omega
theorem le_two (n : Int) (h0 : 0 ≤ n) (h1 : n < 65536) : leInt [byte1 n, byte1 (n / 256)] = n := by
  have a := byte1_nat n
  have b := byte1_nat (n / 256)
  simp only [leInt, leNat]
  generalize (byte1 n).toNat = x at *
  generalize (byte1 (n / 256)).toNat = y at *
  rw [IntKind.wrap_i64]
  omega

theorem and255 (z : Int) : bits .and .i64 z 255 = z % 256 := by
  have h1 : (BitVec.ofInt 64 z).toNat = (z % 18446744073709551616).toNat := by simp [BitVec.toNat_ofInt]
  have h2 : (BitVec.ofInt 64 255).toNat = 255 := by decide
  show IntKind.i64.wrap (((BitVec.ofInt 64 z &&& BitVec.ofInt 64 255).toNat : Nat) : Int) = _
  rw [BitVec.toNat_and, h1, h2, nat_mask8, IntKind.wrap_i64]
  omega
theorem read_int (n : Int) (r : List UInt8) (h1 : -9223372036854775808 ≤ n) (h2 : n ≤ 9223372036854775807) : RS.readInt ⟨le8 n ++ r, 0⟩ = (n, ⟨r, 0⟩) := by
  have hl := le8_length n
  unfold RS.readInt RS.number
  rw [ok_take _ 8 rfl (by simp [hl])]
  simp only [List.take_left' hl, List.drop_left' hl, le_le8 n h1 h2]
theorem read_byte (n : Int) (r : List UInt8) : RS.readByte ⟨byte1 n :: r, 0⟩ = (n % 256, ⟨r, 0⟩) := by
  unfold RS.readByte RS.number
  rw [ok_take _ 1 rfl (by simp)]
  simp only [List.take_succ_cons, List.take_zero, List.drop_succ_cons, List.drop_zero, le_byte1]
theorem cutText_le (s : List UInt8) : (cutText s).length ≤ 65535 := by unfold cutText; rw [List.length_take]; omega
theorem read_text (s r : List UInt8) : RS.readText ⟨textBytes s ++ r, 0⟩ = (cutText s, ⟨r, 0⟩) := by
  have hl := cutText_le s
  unfold RS.readText RS.number textBytes
  rw [ok_take _ 2 rfl (by simp)]
  simp only [List.append_assoc, List.cons_append, List.nil_append, List.take_succ_cons, List.take_zero, List.drop_succ_cons, List.drop_zero]
  rw [le_two _ (by omega) (by omega), Int.toNat_natCast, ok_take _ _ rfl (by simp)]
  simp only [List.take_left, List.drop_left]
end Go.Proofs.Ytdhbaepmbgoobaa
