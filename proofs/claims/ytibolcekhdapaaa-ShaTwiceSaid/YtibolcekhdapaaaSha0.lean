/- SHA-256 in plain words, no program in sight. -/
import Derived.Test.YtibolcekhdapaaaBase
import Derived.Laws.BitsLemmas
namespace Go.Proofs.Ytibolcekhdapaaa
open Go.RowKit
set_option linter.unusedVariables false
set_option maxRecDepth 10000

/-- A word as the model has it. -/
def u32v (x : UInt32) : Value := .int .u32 (x.toNat : Int)
/-- The rounds' numbers; a sum of nothing yet. -/
def shaK : List UInt32 := [0x428a2f98, 0x71374491, 0xb5c0fbcf, 0xe9b5dba5, 0x3956c25b, 0x59f111f1, 0x923f82a4, 0xab1c5ed5, 0xd807aa98, 0x12835b01, 0x243185be, 0x550c7dc3, 0x72be5d74, 0x80deb1fe, 0x9bdc06a7, 0xc19bf174, 0xe49b69c1, 0xefbe4786, 0x0fc19dc6, 0x240ca1cc, 0x2de92c6f, 0x4a7484aa, 0x5cb0a9dc, 0x76f988da, 0x983e5152, 0xa831c66d, 0xb00327c8, 0xbf597fc7, 0xc6e00bf3, 0xd5a79147, 0x06ca6351, 0x14292967, 0x27b70a85, 0x2e1b2138, 0x4d2c6dfc, 0x53380d13, 0x650a7354, 0x766a0abb, 0x81c2c92e, 0x92722c85, 0xa2bfe8a1, 0xa81a664b, 0xc24b8b70, 0xc76c51a3, 0xd192e819, 0xd6990624, 0xf40e3585, 0x106aa070, 0x19a4c116, 0x1e376c08, 0x2748774c, 0x34b0bcb5, 0x391c0cb3, 0x4ed8aa4a, 0x5b9cca4f, 0x682e6ff3, 0x748f82ee, 0x78a5636f, 0x84c87814, 0x8cc70208, 0x90befffa, 0xa4506ceb, 0xbef9a3f7, 0xc67178f2]
def shaH : List UInt32 := [0x6a09e667, 0xbb67ae85, 0x3c6ef372, 0xa54ff53a, 0x510e527f, 0x9b05688c, 0x1f83d9ab, 0x5be0cd19]
def ror (x : UInt32) (n : Nat) : UInt32 := UInt32.ofNat (x.toNat / 2 ^ n) ||| UInt32.ofNat (x.toNat * 2 ^ (32 - n))
def shr32 (x : UInt32) (n : Nat) : UInt32 := UInt32.ofNat (x.toNat / 2 ^ n)
/-- The k-th word of a piece. -/
def word32 (b : List UInt8) (k : Nat) : UInt32 := UInt32.ofNat ((b.getD (4 * k) 0).toNat * 16777216 + (b.getD (4 * k + 1) 0).toNat * 65536 + (b.getD (4 * k + 2) 0).toNat * 256 + (b.getD (4 * k + 3) 0).toNat)
/-- A word for a round, of those ahead. -/
def mix32 (l : List UInt32) (k : Nat) : UInt32 :=
  let x := l.getD (k - 15) 0
  let y := l.getD (k - 2) 0
  l.getD (k - 16) 0 + (ror x 7 ^^^ ror x 18 ^^^ shr32 x 3) + l.getD (k - 7) 0 + (ror y 17 ^^^ ror y 19 ^^^ shr32 y 10)
/-- The first k words of a piece, laid into l. -/
def spreadTo (b : List UInt8) : Nat → List UInt32 → List UInt32
  | 0, l => l
  | k + 1, l => (spreadTo b k l).set k (if k < 16 then word32 b k else mix32 (spreadTo b k l) k)
def zero64 : List UInt32 := List.replicate 64 0
def spread (b : List UInt8) : List UInt32 := spreadTo b 64 zero64
/-- A round. -/
def round1 (t : List UInt32) (k w : UInt32) : List UInt32 :=
  let a := t.getD 0 0
  let e := t.getD 4 0
  let x := t.getD 7 0 + (ror e 6 ^^^ ror e 11 ^^^ ror e 25) + ((e &&& t.getD 5 0) ^^^ (~~~e &&& t.getD 6 0)) + k + w
  let y := (ror a 2 ^^^ ror a 13 ^^^ ror a 22) + ((a &&& t.getD 1 0) ^^^ (a &&& t.getD 2 0) ^^^ (t.getD 1 0 &&& t.getD 2 0))
  [x + y, a, t.getD 1 0, t.getD 2 0, t.getD 3 0 + x, e, t.getD 5 0, t.getD 6 0]
def rounds (w : List UInt32) : Nat → List UInt32 → List UInt32
  | 0, t => t
  | k + 1, t => round1 (rounds w k t) (shaK.getD k 0) (w.getD k 0)
def addL (s t : List UInt32) : List UInt32 := (List.range 8).map fun i => t.getD i 0 + s.getD i 0
/-- A piece is taken. -/
def take1 (s : List UInt32) (b : List UInt8) : List UInt32 := addL s (rounds (spread b) 64 s)
/-- What is laid behind. -/
def be64 (n : Nat) : List UInt8 := (List.range 8).map fun i => UInt8.ofNat (n / 2 ^ (56 - 8 * i))
def padZ (n : Nat) : Nat := (119 - n % 64) % 64
def padded (b : List UInt8) : List UInt8 := b ++ [128] ++ List.replicate (padZ b.length) 0 ++ be64 (b.length * 8)
/-- All pieces. -/
def pieces (s : List UInt32) : Nat → List UInt8 → List UInt32
  | 0, _ => s
  | k + 1, b => pieces (take1 s (b.take 64)) k (b.drop 64)
def outSha (s : List UInt32) : List UInt8 := (List.range 32).map fun i => UInt8.ofNat ((s.getD (i / 4) 0).toNat / 2 ^ (24 - 8 * (i % 4)))
def sha (b : List UInt8) : List UInt8 := outSha (pieces shaH ((padded b).length / 64) (padded b))

theorem padded_len (b : List UInt8) : (padded b).length % 64 = 0 := by
  unfold padded padZ be64
  simp only [List.length_append, List.length_cons, List.length_nil, List.length_replicate, List.length_map, List.length_range]
  omega
theorem outSha_len (s : List UInt32) : (outSha s).length = 32 := by simp [outSha]
theorem sha_len (b : List UInt8) : (sha b).length = 32 := outSha_len _
theorem spreadTo_len (b : List UInt8) : ∀ (k : Nat) (l : List UInt32), (spreadTo b k l).length = l.length
  | 0, _ => rfl
  | k + 1, l => by rw [spreadTo, List.length_set, spreadTo_len b k l]
theorem getD_set_self {l : List UInt32} {k : Nat} (h : k < l.length) (x : UInt32) : (l.set k x).getD k 0 = x := by
  simp [List.getD, List.getElem?_set_self h]
theorem getD_set_ne {l : List UInt32} {k j : Nat} (h : k ≠ j) (x : UInt32) : (l.set k x).getD j 0 = l.getD j 0 := by
  simp [List.getD, List.getElem?_set_ne h]
/-- What stands in l ahead does not matter. -/
theorem spreadTo_same (b : List UInt8) (l m : List UInt32) (hl : l.length = 64) (hm : m.length = 64) : ∀ k, k ≤ 64 → ∀ j, j < k → (spreadTo b k l).getD j 0 = (spreadTo b k m).getD j 0
  | 0, _, j, hj => by omega
  | k + 1, hk, j, hj => by
    have ih := spreadTo_same b l m hl hm k (by omega)
    rw [spreadTo, spreadTo]
    by_cases e : j = k
    · subst e
      rw [getD_set_self (by rw [spreadTo_len]; omega), getD_set_self (by rw [spreadTo_len]; omega)]
      split
      · rfl
      · unfold mix32
        rw [ih (j - 15) (by omega), ih (j - 2) (by omega), ih (j - 16) (by omega), ih (j - 7) (by omega)]
    · rw [getD_set_ne (by omega), getD_set_ne (by omega)]
      exact ih j (by omega)
theorem spread_any (b : List UInt8) (l : List UInt32) (hl : l.length = 64) : spreadTo b 64 l = spread b := by
  have hz : zero64.length = 64 := by simp [zero64]
  apply List.ext_getElem?
  intro i
  by_cases h : i < 64
  · have := spreadTo_same b l zero64 hl hz 64 (Nat.le_refl _) i h
    have h1 : i < (spreadTo b 64 l).length := by rw [spreadTo_len]; omega
    have h2 : i < (spread b).length := by unfold spread; rw [spreadTo_len]; omega
    rw [List.getElem?_eq_getElem h1, List.getElem?_eq_getElem h2]
    unfold spread at h2 ⊢
    rw [List.getD_eq_getElem?_getD, List.getD_eq_getElem?_getD, List.getElem?_eq_getElem h1, List.getElem?_eq_getElem h2] at this
    exact congrArg some this
  · rw [List.getElem?_eq_none (by rw [spreadTo_len]; omega), List.getElem?_eq_none (by unfold spread; rw [spreadTo_len]; omega)]

/-- The model's arithmetic on words. -/
theorem w_lt (x : UInt32) : (x.toNat : Int) < 4294967296 := by have := x.toNat_lt; omega
theorem wrapAdd (x y : UInt32) : IntKind.u32.wrap ((x.toNat : Int) + (y.toNat : Int)) = ((x + y).toNat : Int) := by
  rw [IntKind.wrap_u32, UInt32.toNat_add]; omega
theorem w32 (b : BitVec 32) : IntKind.u32.wrap (b.toNat : Int) = (b.toNat : Int) := by
  rw [IntKind.wrap_u32]; have := b.isLt; omega
theorem ofInt_w (x : UInt32) : BitVec.ofInt 32 (x.toNat : Int) = x.toBitVec := by
  rw [BitVec.ofInt_natCast]
  apply BitVec.eq_of_toNat_eq
  simp
theorem bitsXor (x y : UInt32) : bits .xor .u32 (x.toNat : Int) (y.toNat : Int) = ((x ^^^ y).toNat : Int) := by
  show IntKind.u32.wrap ((BitVec.ofInt 32 (x.toNat : Int) ^^^ BitVec.ofInt 32 (y.toNat : Int)).toNat : Int) = _
  rw [ofInt_w, ofInt_w, w32]; rfl
theorem bitsAnd (x y : UInt32) : bits .and .u32 (x.toNat : Int) (y.toNat : Int) = ((x &&& y).toNat : Int) := by
  show IntKind.u32.wrap ((BitVec.ofInt 32 (x.toNat : Int) &&& BitVec.ofInt 32 (y.toNat : Int)).toNat : Int) = _
  rw [ofInt_w, ofInt_w, w32]; rfl
theorem bitsOr (x y : UInt32) : bits .or .u32 (x.toNat : Int) (y.toNat : Int) = ((x ||| y).toNat : Int) := by
  show IntKind.u32.wrap ((BitVec.ofInt 32 (x.toNat : Int) ||| BitVec.ofInt 32 (y.toNat : Int)).toNat : Int) = _
  rw [ofInt_w, ofInt_w, w32]; rfl
theorem bitsNot (x : UInt32) : bits .xor .u32 4294967295 (x.toNat : Int) = ((~~~x).toNat : Int) := by
  show IntKind.u32.wrap ((BitVec.ofInt 32 4294967295 ^^^ BitVec.ofInt 32 (x.toNat : Int)).toNat : Int) = _
  have h1 : BitVec.ofInt 32 4294967295 = BitVec.allOnes 32 := by decide
  rw [ofInt_w, h1, BitVec.allOnes_xor, w32]; rfl
theorem shlW (x : UInt32) (n : Nat) : IntKind.u32.wrap ((x.toNat : Int) * ((2 ^ n : Nat) : Int)) = ((UInt32.ofNat (x.toNat * 2 ^ n)).toNat : Int) := by
  rw [IntKind.wrap_u32, UInt32.toNat_ofNat']
  rfl
theorem shrW (x : UInt32) (n : Nat) : (x.toNat : Int) / ((2 ^ n : Nat) : Int) = ((UInt32.ofNat (x.toNat / 2 ^ n)).toNat : Int) := by
  have h := x.toNat_lt
  have h2 : x.toNat / 2 ^ n ≤ x.toNat := Nat.div_le_self _ _
  rw [UInt32.toNat_ofNat', Nat.mod_eq_of_lt (by omega)]
  rfl
end Go.Proofs.Ytibolcekhdapaaa
