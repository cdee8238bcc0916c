/- Numbers as bytes: plain arithmetic. -/
import Derived.Test.YtdhbaepmbgoobaaShape
namespace Go.Proofs.Ytdhbaepmbgoobaa
open Go.RowKit
set_option linter.unusedVariables false
set_option maxRecDepth 10000
set_option linter.unusedSimpArgs false
set_option linter.unnecessarySimpa false

/-- A number out of bytes, the lowest first. -/
def leNat : List UInt8 → Nat
  | [] => 0
  | b :: bs => b.toNat + 256 * leNat bs
/-- as an int. -/
def leInt (bs : List UInt8) : Int := IntKind.i64.wrap (leNat bs)

theorem leNat_lt (bs : List UInt8) : leNat bs < 256 ^ bs.length := by
  induction bs with
  | nil => simp [leNat]
  | cons b bs ih =>
    have := b.toNat_lt
    simp only [leNat, List.length_cons, Nat.pow_succ]
    omega
theorem leNat_snoc (bs : List UInt8) (b : UInt8) : leNat (bs ++ [b]) = leNat bs + b.toNat * 256 ^ bs.length := by
  induction bs with
  | nil => simp [leNat]
  | cons a bs ih =>
    simp only [List.cons_append, leNat, ih, List.length_cons, Nat.pow_succ]
    rw [Nat.mul_add, ← Nat.add_assoc, Nat.mul_comm (256 ^ bs.length) 256, ← Nat.mul_assoc, ← Nat.mul_assoc, Nat.mul_comm 256 b.toNat]
theorem pow256 (k : Nat) : 256 ^ k = 2 ^ (8 * k) := by rw [Nat.pow_mul]
theorem leNat_take (bs : List UInt8) (k : Nat) (hk : k < bs.length) : leNat (bs.take (k + 1)) = leNat (bs.take k) + bs[k].toNat * 2 ^ (8 * k) := by
  rw [List.take_succ_eq_append_getElem hk, leNat_snoc, List.length_take, Nat.min_eq_left (by omega), pow256]
theorem or_add (a b i : Nat) (h : a < 2 ^ i) : a ||| (b * 2 ^ i) = a + b * 2 ^ i := by
  have := Nat.two_pow_add_eq_or_of_lt h b
  rw [Nat.or_comm, Nat.mul_comm, ← this, Nat.add_comm]
theorem le_step (bs : List UInt8) (k : Nat) (hk : k < bs.length) (h8 : bs.length ≤ 8) :
    bits .or .u64 (leNat (bs.take k) : Nat) (IntKind.u64.wrap ((bs[k].toNat : Int) * 2 ^ (8 * k))) = (leNat (bs.take (k + 1)) : Nat) := by
  have h1 := leNat_lt (bs.take k)
  rw [List.length_take, Nat.min_eq_left (by omega), pow256] at h1
  have hb := (bs[k]).toNat_lt
  have hp : 2 ^ (8 * k) * 256 ≤ 18446744073709551616 := by
    have : (2 : Nat) ^ (8 * k) ≤ 2 ^ 56 := Nat.pow_le_pow_right (by omega) (by omega)
    omega
  have hp0 : 0 < 2 ^ (8 * k) := Nat.pos_of_ne_zero (by simp)
  have e1 : ((bs[k].toNat : Int) * 2 ^ (8 * k)) = ((bs[k].toNat * 2 ^ (8 * k) : Nat) : Int) := by push_cast; rfl
  have h2 : bs[k].toNat * 2 ^ (8 * k) < 18446744073709551616 := by
    have := Nat.mul_lt_mul_of_pos_right hb hp0
    omega
  rw [e1, show IntKind.u64.wrap ((bs[k].toNat * 2 ^ (8 * k) : Nat) : Int) = ((bs[k].toNat * 2 ^ (8 * k) : Nat) : Int) by simp only [IntKind.wrap_u64]; omega, u64_or_nat _ _ (by omega) h2, or_add _ _ _ h1, leNat_take bs k hk]

theorem be_step (bs : List UInt8) (k : Nat) (hk : k < bs.length) (h8 : bs.length ≤ 8) :
    bits .or .u64 (IntKind.u64.wrap ((leNat (bs.drop (k + 1)) : Nat) * 256)) (bs[k].toNat : Int) = (leNat (bs.drop k) : Nat) := by
  have hb := (bs[k]).toNat_lt
  have h1 := leNat_lt (bs.drop (k + 1))
  rw [List.length_drop] at h1
  have hp : (256 : Nat) ^ (bs.length - (k + 1)) ≤ 256 ^ 7 := Nat.pow_le_pow_right (by omega) (by omega)
  have hp7 : (256 : Nat) ^ 7 = 72057594037927936 := rfl
  have hd : bs.drop k = bs[k] :: bs.drop (k + 1) := List.drop_eq_getElem_cons hk
  rw [hd]
  simp only [leNat]
  generalize leNat (bs.drop (k + 1)) = x at *
  have hx : x < 72057594037927936 := by omega
  clear hp hp7 h1 hd
  have e1 : ((x : Nat) : Int) * 256 = ((x * 256 : Nat) : Int) := by omega
  have e2 : IntKind.u64.wrap ((x * 256 : Nat) : Int) = ((x * 256 : Nat) : Int) := by simp only [IntKind.wrap_u64]; omega
  have e3 := or_add (bs[k]).toNat x 8 (by omega)
  have e4 : x * 2 ^ 8 = x * 256 := rfl
  rw [e4] at e3
  rw [e1, e2, u64_or_nat _ _ (by omega) (by omega), Nat.or_comm, e3]
  congr 1; omega
end Go.Proofs.Ytdhbaepmbgoobaa
