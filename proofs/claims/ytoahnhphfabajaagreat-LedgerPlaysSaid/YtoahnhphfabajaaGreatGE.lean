/- SHA-256 in plain words, no program in sight. Roots and proofs in plain words, no program in sight. Words are turned to the right. Great arrays in blocks: alloc, load, store, by their rows. The rounds' numbers, a sum of nothing yet. -/
import Derived.Test.YtoahnhphfabajaaGreatGA
import Derived.Laws.BitsLemmas
import Derived.Test.YtoahnhphfabajaaGreatGB
import Derived.Test.YtoahnhphfabajaaGreatProg
import Derived.Great.BuildSlice
import Derived.Great.Walk
import Derived.Deep.WholeRow
namespace Go.Proofs.YtoahnhphfabajaaGreat
set_option maxRecDepth 10000
open Go.RowKit
set_option linter.unusedVariables false
set_option maxRecDepth 10000

/-- A word as the model has it. -/
def u32v (x : UInt32) : Value := .int .u32 (x.toNat : Int)
/-- The rounds' numbers; a sum of nothing yet. -/
def shaK : List UInt32 := [0x428a2f98, 0x71374491, 0xb5c0fbcf, 0xe9b5dba5, 0x3956c25b, 0x59f111f1, 0x923f82a4, 0xab1c5ed5, 0xd807aa98, 0x12835b01, 0x243185be, 0x550c7dc3, 0x72be5d74, 0x80deb1fe, 0x9bdc06a7, 0xc19bf174, 0xe49b69c1, 0xefbe4786, 0x0fc19dc6, 0x240ca1cc, 0x2de92c6f, 0x4a7484aa, 0x5cb0a9dc, 0x76f988da, 0x983e5152, 0xa831c66d, 0xb00327c8, 0xbf597fc7, 0xc6e00bf3, 0xd5a79147, 0x06ca6351, 0x14292967, 0x27b70a85, 0x2e1b2138, 0x4d2c6dfc, 0x53380d13, 0x650a7354, 0x766a0abb, 0x81c2c92e, 0x92722c85, 0xa2bfe8a1, 0xa81a664b, 0xc24b8b70, 0xc76c51a3, 0xd192e819, 0xd6990624, 0xf40e3585, 0x106aa070, 0x19a4c116, 0x1e376c08, 0x2748774c, 0x34b0bcb5, 0x391c0cb3, 0x4ed8aa4a, 0x5b9cca4f, 0x682e6ff3, 0x748f82ee, 0x78a5636f, 0x84c87814, 0x8cc70208, 0x90befffa, 0xa4506ceb, 0xbef9a3f7, 0xc67178f2]
def shaH : List UInt32 := [0x6a09e667, 0xbb67ae85, 0x3c6ef372, 0xa54ff53a, 0x510e527f, 0x9b05688c, 0x1f83d9ab, 0x5be0cd19]
def ror (x : UInt32) (n : Nat) : UInt32 := UInt32.ofNat (x.toNat / 2 ^ n) ||| UInt32.ofNat (x.toNat * 2 ^ (32 - n))
def shr32 (x : UInt32) (n : Nat) : UInt32 := UInt32.ofNat (x.toNat / 2 ^ n)
/-- The k-th word of a piece. -/
def word32 (b : List UInt8) (k : Nat) : UInt32 := UInt32.ofNat ((b.getD (4 * k) 0).toNat * 16777216 + (b.getD (4 * k + 1) 0).toNat * 65536 + (b.getD (4 * k + 2) 0).toNat * 256 + (b.getD (4 * k + 3) 0).toNat)
/-- A word for a round, of those ahead. -/
def mix32 (l : List UInt32) (k : Nat) : UInt32 :=
  let x := l.getD (k - 15) 0
  let y := l.getD (k - 2) 0
  l.getD (k - 16) 0 + (ror x 7 ^^^ ror x 18 ^^^ shr32 x 3) + l.getD (k - 7) 0 + (ror y 17 ^^^ ror y 19 ^^^ shr32 y 10)
/-- The first k words of a piece, laid into l. -/
def spreadTo (b : List UInt8) : Nat → List UInt32 → List UInt32
  | 0, l => l
  | k + 1, l => (spreadTo b k l).set k (if k < 16 then word32 b k else mix32 (spreadTo b k l) k)
def zero64 : List UInt32 := List.replicate 64 0
def spread (b : List UInt8) : List UInt32 := spreadTo b 64 zero64
/-- A round. -/
def round1 (t : List UInt32) (k w : UInt32) : List UInt32 :=
  let a := t.getD 0 0
  let e := t.getD 4 0
  let x := t.getD 7 0 + (ror e 6 ^^^ ror e 11 ^^^ ror e 25) + ((e &&& t.getD 5 0) ^^^ (~~~e &&& t.getD 6 0)) + k + w
  let y := (ror a 2 ^^^ ror a 13 ^^^ ror a 22) + ((a &&& t.getD 1 0) ^^^ (a &&& t.getD 2 0) ^^^ (t.getD 1 0 &&& t.getD 2 0))
  [x + y, a, t.getD 1 0, t.getD 2 0, t.getD 3 0 + x, e, t.getD 5 0, t.getD 6 0]
def rounds (w : List UInt32) : Nat → List UInt32 → List UInt32
  | 0, t => t
  | k + 1, t => round1 (rounds w k t) (shaK.getD k 0) (w.getD k 0)
def addL (s t : List UInt32) : List UInt32 := (List.range 8).map fun i => t.getD i 0 + s.getD i 0
/-- A piece is taken. -/
def take1 (s : List UInt32) (b : List UInt8) : List UInt32 := addL s (rounds (spread b) 64 s)
/-- What is laid behind. -/
def be64 (n : Nat) : List UInt8 := (List.range 8).map fun i => UInt8.ofNat (n / 2 ^ (56 - 8 * i))
def padZ (n : Nat) : Nat := (119 - n % 64) % 64
def padded (b : List UInt8) : List UInt8 := b ++ [128] ++ List.replicate (padZ b.length) 0 ++ be64 (b.length * 8)
/-- All pieces. -/
def pieces (s : List UInt32) : Nat → List UInt8 → List UInt32
  | 0, _ => s
  | k + 1, b => pieces (take1 s (b.take 64)) k (b.drop 64)
def outSha (s : List UInt32) : List UInt8 := (List.range 32).map fun i => UInt8.ofNat ((s.getD (i / 4) 0).toNat / 2 ^ (24 - 8 * (i % 4)))
def sha (b : List UInt8) : List UInt8 := outSha (pieces shaH ((padded b).length / 64) (padded b))

theorem padded_len (b : List UInt8) : (padded b).length % 64 = 0 := by
  unfold padded padZ be64
  simp only [List.length_append, List.length_cons, List.length_nil, List.length_replicate, List.length_map, List.length_range]
  omega
theorem outSha_len (s : List UInt32) : (outSha s).length = 32 := by simp [outSha]
theorem sha_len (b : List UInt8) : (sha b).length = 32 := outSha_len _
theorem spreadTo_len (b : List UInt8) : ∀ (k : Nat) (l : List UInt32), (spreadTo b k l).length = l.length
  | 0, _ => rfl
  | k + 1, l => by rw [spreadTo, List.length_set, spreadTo_len b k l]
theorem getD_set_self {l : List UInt32} {k : Nat} (h : k < l.length) (x : UInt32) : (l.set k x).getD k 0 = x := by
  simp [List.getD, List.getElem?_set_self h]
theorem getD_set_ne {l : List UInt32} {k j : Nat} (h : k ≠ j) (x : UInt32) : (l.set k x).getD j 0 = l.getD j 0 := by
  simp [List.getD, List.getElem?_set_ne h]
/-- What stands in l ahead does not matter. -/
theorem spreadTo_same (b : List UInt8) (l m : List UInt32) (hl : l.length = 64) (hm : m.length = 64) : ∀ k, k ≤ 64 → ∀ j, j < k → (spreadTo b k l).getD j 0 = (spreadTo b k m).getD j 0
  | 0, _, j, hj => by omega
  | k + 1, hk, j, hj => by
    have ih := spreadTo_same b l m hl hm k (by omega)
    rw [spreadTo, spreadTo]
    by_cases e : j = k
    · subst e
      rw [getD_set_self (by rw [spreadTo_len]; omega), getD_set_self (by rw [spreadTo_len]; omega)]
      split
      · rfl
      · unfold mix32
        rw [ih (j - 15) (by omega), ih (j - 2) (by omega), ih (j - 16) (by omega), ih (j - 7) (by omega)]
    · rw [getD_set_ne (by omega), getD_set_ne (by omega)]
      exact ih j (by omega)
theorem spread_any (b : List UInt8) (l : List UInt32) (hl : l.length = 64) : spreadTo b 64 l = spread b := by
  have hz : zero64.length = 64 := by simp [zero64]
  apply List.ext_getElem?
  intro i
  by_cases h : i < 64
  · have := spreadTo_same b l zero64 hl hz 64 (Nat.le_refl _) i h
    have h1 : i < (spreadTo b 64 l).length := by rw [spreadTo_len]; omega
    have h2 : i < (spread b).length := by unfold spread; rw [spreadTo_len]; omega
    rw [List.getElem?_eq_getElem h1, List.getElem?_eq_getElem h2]
    unfold spread at h2 ⊢
    rw [List.getD_eq_getElem?_getD, List.getD_eq_getElem?_getD, List.getElem?_eq_getElem h1, List.getElem?_eq_getElem h2] at this
    exact congrArg some this
  · rw [List.getElem?_eq_none (by rw [spreadTo_len]; omega), List.getElem?_eq_none (by unfold spread; rw [spreadTo_len]; omega)]

/-- The model's arithmetic on words. -/
theorem w_lt (x : UInt32) : (x.toNat : Int) < 4294967296 := by have := x.toNat_lt; omega
theorem wrapAdd (x y : UInt32) : IntKind.u32.wrap ((x.toNat : Int) + (y.toNat : Int)) = ((x + y).toNat : Int) := by
  rw [IntKind.wrap_u32, UInt32.toNat_add]; omega
theorem w32 (b : BitVec 32) : IntKind.u32.wrap (b.toNat : Int) = (b.toNat : Int) := by
  rw [IntKind.wrap_u32]; have := b.isLt; omega
theorem ofInt_w (x : UInt32) : BitVec.ofInt 32 (x.toNat : Int) = x.toBitVec := by
  rw [BitVec.ofInt_natCast]
  apply BitVec.eq_of_toNat_eq
  simp
theorem bitsXor (x y : UInt32) : bits .xor .u32 (x.toNat : Int) (y.toNat : Int) = ((x ^^^ y).toNat : Int) := by
  show IntKind.u32.wrap ((BitVec.ofInt 32 (x.toNat : Int) ^^^ BitVec.ofInt 32 (y.toNat : Int)).toNat : Int) = _
  rw [ofInt_w, ofInt_w, w32]; rfl
theorem bitsAnd (x y : UInt32) : bits .and .u32 (x.toNat : Int) (y.toNat : Int) = ((x &&& y).toNat : Int) := by
  show IntKind.u32.wrap ((BitVec.ofInt 32 (x.toNat : Int) &&& BitVec.ofInt 32 (y.toNat : Int)).toNat : Int) = _
  rw [ofInt_w, ofInt_w, w32]; rfl
theorem bitsOr (x y : UInt32) : bits .or .u32 (x.toNat : Int) (y.toNat : Int) = ((x ||| y).toNat : Int) := by
  show IntKind.u32.wrap ((BitVec.ofInt 32 (x.toNat : Int) ||| BitVec.ofInt 32 (y.toNat : Int)).toNat : Int) = _
  rw [ofInt_w, ofInt_w, w32]; rfl
theorem bitsNot (x : UInt32) : bits .xor .u32 4294967295 (x.toNat : Int) = ((~~~x).toNat : Int) := by
  show IntKind.u32.wrap ((BitVec.ofInt 32 4294967295 ^^^ BitVec.ofInt 32 (x.toNat : Int)).toNat : Int) = _
  have h1 : BitVec.ofInt 32 4294967295 = BitVec.allOnes 32 := by decide
  rw [ofInt_w, h1, BitVec.allOnes_xor, w32]; rfl
theorem shlW (x : UInt32) (n : Nat) : IntKind.u32.wrap ((x.toNat : Int) * ((2 ^ n : Nat) : Int)) = ((UInt32.ofNat (x.toNat * 2 ^ n)).toNat : Int) := by
  rw [IntKind.wrap_u32, UInt32.toNat_ofNat']
  rfl
theorem shrW (x : UInt32) (n : Nat) : (x.toNat : Int) / ((2 ^ n : Nat) : Int) = ((UInt32.ofNat (x.toNat / 2 ^ n)).toNat : Int) := by
  have h := x.toNat_lt
  have h2 : x.toNat / 2 ^ n ≤ x.toNat := Nat.div_le_self _ _
  rw [UInt32.toNat_ofNat', Nat.mod_eq_of_lt (by omega)]
  rfl
end Go.Proofs.YtoahnhphfabajaaGreat
namespace Go.Proofs.YtoahnhphfabajaaGreat
set_option maxRecDepth 10000
open Go.RowKit
set_option linter.unusedVariables false

def leafH (b : List UInt8) : List UInt8 := sha (0 :: b)
def twoH (a b : List UInt8) : List UInt8 := sha (1 :: (a ++ b))
theorem twoH_len (a b : List UInt8) : (twoH a b).length = 32 := sha_len _
/-- The greatest power of two that is less than n: from k on. -/
def cutF : Nat → Nat → Nat → Nat
  | 0, k, _ => k
  | f + 1, k, n => if 2 * k < n then cutF f (2 * k) n else k
def mcut (n : Nat) : Nat := cutF n 1 n
theorem cutF_pos : ∀ (f k n : Nat), 0 < k → 0 < cutF f k n
  | 0, k, _, h => h
  | f + 1, k, n, h => by
    rw [cutF]
    split
    · exact cutF_pos f _ _ (by omega)
    · exact h
theorem cutF_lt : ∀ (f k n : Nat), k < n → cutF f k n < n
  | 0, k, _, h => h
  | f + 1, k, n, h => by
    rw [cutF]
    split
    · exact cutF_lt f _ _ (by omega)
    · exact h
theorem cutF_stop : ∀ (f k n : Nat), ¬ 2 * k < n → cutF f k n = k
  | 0, k, _, _ => rfl
  | f + 1, k, n, h => by rw [cutF, if_neg h]
theorem cutF_big : ∀ (f k n : Nat), 0 < k → n ≤ k + f → n ≤ 2 * cutF f k n
  | 0, k, n, h0, h1 => by rw [cutF]; omega
  | f + 1, k, n, h0, h1 => by
    rw [cutF]
    split
    · exact cutF_big f (2 * k) n (by omega) (by omega)
    · omega
theorem mcut_pos (n : Nat) : 0 < mcut n := cutF_pos _ _ _ (by omega)
theorem mcut_lt (n : Nat) (h : 2 ≤ n) : mcut n < n := cutF_lt _ _ _ (by omega)
theorem mcut_big (n : Nat) : n ≤ 2 * mcut n := cutF_big _ _ _ (by omega) (by omega)
theorem cutF_pow : ∀ (f k n m : Nat), k = 2 ^ m → ∃ m', cutF f k n = 2 ^ m'
  | 0, k, n, m, h => ⟨m, h⟩
  | f + 1, k, n, m, h => by
    rw [cutF]
    split
    · exact cutF_pow f (2 * k) n (m + 1) (by rw [h, Nat.pow_succ]; omega)
    · exact ⟨m, h⟩
theorem mcut_pow (n : Nat) : ∃ m, mcut n = 2 ^ m := cutF_pow _ _ _ 0 rfl
/-- Where n fits into a power, its halves fit into the one below. -/
theorem mcut_half (n m : Nat) (h2 : 2 ≤ n) (h : n ≤ 2 ^ (m + 1)) : mcut n ≤ 2 ^ m := by
  obtain ⟨j, hj⟩ := mcut_pow n
  have hlt := mcut_lt n h2
  rw [hj] at hlt ⊢
  have : j < m + 1 := (Nat.pow_lt_pow_iff_right (by omega : 1 < 2)).1 (by omega)
  exact Nat.pow_le_pow_right (by omega) (by omega)

/-- The sum of a row of sums. -/
def mroot (l : List (List UInt8)) : List UInt8 :=
  if h : l.length < 2 then (match l with
    | [] => sha []
    | x :: _ => x)
  else twoH (mroot (l.take (mcut l.length))) (mroot (l.drop (mcut l.length)))
termination_by l.length
decreasing_by
  · have := mcut_lt l.length (by omega); simp; omega
  · have := mcut_pos l.length; simp; omega
theorem mroot_nil : mroot [] = sha [] := by rw [mroot]; simp
theorem mroot_one (x : List UInt8) : mroot [x] = x := by rw [mroot]; simp
theorem mroot_two (l : List (List UInt8)) (h : 2 ≤ l.length) : mroot l = twoH (mroot (l.take (mcut l.length))) (mroot (l.drop (mcut l.length))) := by
  conv => lhs; rw [mroot]
  rw [dif_neg (by omega)]
theorem mroot_len (l : List (List UInt8)) (h : ∀ x ∈ l, x.length = 32) : (mroot l).length = 32 := by
  by_cases h2 : 2 ≤ l.length
  · rw [mroot_two l h2]; exact twoH_len _ _
  · match l, h, h2 with
    | [], _, _ => rw [mroot_nil]; exact sha_len _
    | [x], h, _ => rw [mroot_one]; exact h x (by simp)
    | _ :: _ :: _, _, h2 => simp at h2
/-- A place's proof. -/
def mproof (l : List (List UInt8)) (i : Nat) : List (List UInt8) :=
  if h : l.length < 2 then []
  else if i < mcut l.length then mproof (l.take (mcut l.length)) i ++ [mroot (l.drop (mcut l.length))]
  else mproof (l.drop (mcut l.length)) (i - mcut l.length) ++ [mroot (l.take (mcut l.length))]
termination_by l.length
decreasing_by
  · have := mcut_lt l.length (by omega); simp; omega
  · have := mcut_pos l.length; simp; omega
theorem mproof_few (l : List (List UInt8)) (i : Nat) (h : l.length < 2) : mproof l i = [] := by rw [mproof, dif_pos h]
theorem mproof_left (l : List (List UInt8)) (i : Nat) (h : 2 ≤ l.length) (hi : i < mcut l.length) : mproof l i = mproof (l.take (mcut l.length)) i ++ [mroot (l.drop (mcut l.length))] := by
  conv => lhs; rw [mproof]
  rw [dif_neg (by omega), if_pos hi]
theorem mproof_right (l : List (List UInt8)) (i : Nat) (h : 2 ≤ l.length) (hi : ¬ i < mcut l.length) : mproof l i = mproof (l.drop (mcut l.length)) (i - mcut l.length) ++ [mroot (l.take (mcut l.length))] := by
  conv => lhs; rw [mproof]
  rw [dif_neg (by omega), if_neg hi]
/-- From the root down: does the other sum stand ahead? -/
def mway (i n : Nat) : List Bool :=
  if h : n < 2 then []
  else if i < mcut n then false :: mway i (mcut n) else true :: mway (i - mcut n) (n - mcut n)
termination_by n
decreasing_by
  · have := mcut_lt n (by omega); omega
  · have := mcut_pos n; omega
theorem mway_few (i n : Nat) (h : n < 2) : mway i n = [] := by rw [mway, dif_pos h]
theorem mway_left (i n : Nat) (h : 2 ≤ n) (hi : i < mcut n) : mway i n = false :: mway i (mcut n) := by
  conv => lhs; rw [mway]
  rw [dif_neg (by omega), if_pos hi]
theorem mway_right (i n : Nat) (h : 2 ≤ n) (hi : ¬ i < mcut n) : mway i n = true :: mway (i - mcut n) (n - mcut n) := by
  conv => lhs; rw [mway]
  rw [dif_neg (by omega), if_neg hi]
theorem mway_le : ∀ (m n i : Nat), n ≤ 2 ^ m → (mway i n).length ≤ m
  | 0, n, i, h => by rw [mway_few i n (by simpa using Nat.lt_succ_of_le h)]; simp
  | m + 1, n, i, h => by
    by_cases h2 : n < 2
    · rw [mway_few i n h2]; simp
    · have hh := mcut_half n m (by omega) h
      have hb := mcut_big n
      by_cases hi : i < mcut n
      · rw [mway_left i n (by omega) hi]
        have := mway_le m (mcut n) i hh
        simp; omega
      · rw [mway_right i n (by omega) hi]
        have := mway_le m (n - mcut n) (i - mcut n) (by omega)
        simp; omega
theorem mproof_len : ∀ (N : Nat) (l : List (List UInt8)) (i : Nat), l.length ≤ N → i < l.length → (mproof l i).length = (mway i l.length).length
  | 0, l, i, h, hi => by omega
  | N + 1, l, i, h, hi => by
    by_cases h2 : l.length < 2
    · rw [mproof_few l i h2, mway_few i _ h2]; rfl
    · have hlt := mcut_lt l.length (by omega)
      have hp := mcut_pos l.length
      by_cases hk : i < mcut l.length
      · rw [mproof_left l i (by omega) hk, mway_left i _ (by omega) hk]
        have := mproof_len N (l.take (mcut l.length)) i (by simp; omega) (by simp; omega)
        rw [List.length_append, this]
        simp [Nat.min_eq_left (Nat.le_of_lt hlt)]
      · rw [mproof_right l i (by omega) hk, mway_right i _ (by omega) hk]
        have := mproof_len N (l.drop (mcut l.length)) (i - mcut l.length) (by simp; omega) (by simp; omega)
        rw [List.length_append, this]
        simp
/-- A leaf led up: the ways and the sums in one order, from the leaf up. -/
def fold2 (h : List UInt8) (z : List (Bool × List UInt8)) : List UInt8 := z.foldl (fun x q => if q.1 then twoH q.2 x else twoH x q.2) h
theorem fold2_snoc (h : List UInt8) (z : List (Bool × List UInt8)) (q : Bool × List UInt8) : fold2 h (z ++ [q]) = if q.1 then twoH q.2 (fold2 h z) else twoH (fold2 h z) q.2 := by
  unfold fold2; rw [List.foldl_append]; rfl
/-- What a proof leads a leaf to. -/
def mled (h : List UInt8) (i n : Nat) (p : List (List UInt8)) : List UInt8 := fold2 h ((mway i n).reverse.zip p)
def mcheck (root leaf : List UInt8) (i n : Nat) (p : List (List UInt8)) : Bool := (mway i n).length == p.length && mled leaf i n p == root
theorem zip_snoc {α β : Type} : ∀ (a : List α) (b : List β) (x : α) (y : β), a.length = b.length → (a ++ [x]).zip (b ++ [y]) = a.zip b ++ [(x, y)]
  | [], [], x, y, _ => rfl
  | _ :: _, [], _, _, h => by simp at h
  | [], _ :: _, _, _, h => by simp at h
  | a :: a2, b :: b2, x, y, h => by
    rw [List.cons_append, List.cons_append, List.zip_cons_cons, zip_snoc a2 b2 x y (by simpa using h)]; rfl
theorem mled_left (h : List UInt8) (i n : Nat) (p : List (List UInt8)) (x : List UInt8) (h2 : 2 ≤ n) (hi : i < mcut n) (hl : (mway i (mcut n)).length = p.length) :
    mled h i n (p ++ [x]) = twoH (mled h i (mcut n) p) x := by
  unfold mled
  rw [mway_left i n h2 hi, List.reverse_cons, zip_snoc _ _ _ _ (by simpa using hl), fold2_snoc]; rfl
theorem mled_right (h : List UInt8) (i n : Nat) (p : List (List UInt8)) (x : List UInt8) (h2 : 2 ≤ n) (hi : ¬ i < mcut n) (hl : (mway (i - mcut n) (n - mcut n)).length = p.length) :
    mled h i n (p ++ [x]) = twoH x (mled h (i - mcut n) (n - mcut n) p) := by
  unfold mled
  rw [mway_right i n h2 hi, List.reverse_cons, zip_snoc _ _ _ _ (by simpa using hl), fold2_snoc]; rfl
/-- Each place's proof leads its own sum to the root. -/
theorem mled_proof : ∀ (N : Nat) (l : List (List UInt8)) (i : Nat) (x : List UInt8), l.length ≤ N → l[i]? = some x → mled x i l.length (mproof l i) = mroot l
  | 0, l, i, x, h, hi => by have := (List.getElem?_eq_some_iff.1 hi).1; omega
  | N + 1, l, i, x, h, hx => by
    have hi := (List.getElem?_eq_some_iff.1 hx).1
    by_cases h2 : l.length < 2
    · have h1 : l.length = 1 := by omega
      obtain ⟨y, rfl⟩ := List.length_eq_one_iff.1 h1
      have : i = 0 := by simpa using hi
      subst this
      have : y = x := by simpa using hx
      subst this
      rw [mproof_few _ _ h2, mroot_one]
      unfold mled
      rw [mway_few _ _ h2]; rfl
    · have hlt := mcut_lt l.length (by omega)
      have hp := mcut_pos l.length
      by_cases hk : i < mcut l.length
      · have ih := mled_proof N (l.take (mcut l.length)) i x (by simp; omega) (by rw [List.getElem?_take, if_pos hk]; exact hx)
        have hl := mproof_len l.length (l.take (mcut l.length)) i (by simp; omega) (by simp; omega)
        have ht : (l.take (mcut l.length)).length = mcut l.length := by simp; omega
        rw [ht] at ih hl
        rw [mproof_left l i (by omega) hk, mled_left _ _ _ _ _ (by omega) hk hl.symm, mroot_two l (by omega), ih]
      · have ih := mled_proof N (l.drop (mcut l.length)) (i - mcut l.length) x (by simp; omega) (by rw [List.getElem?_drop, show mcut l.length + (i - mcut l.length) = i by omega]; exact hx)
        have hl := mproof_len l.length (l.drop (mcut l.length)) (i - mcut l.length) (by simp) (by simp; omega)
        have ht : (l.drop (mcut l.length)).length = l.length - mcut l.length := by simp
        rw [ht] at ih hl
        rw [mproof_right l i (by omega) hk, mled_right _ _ _ _ _ (by omega) hk hl.symm, mroot_two l (by omega), ih]
theorem mcheck_proof (l : List (List UInt8)) (i : Nat) (hi : i < l.length) : mcheck (mroot l) l[i] i l.length (mproof l i) = true := by
  unfold mcheck
  rw [mproof_len l.length l i (Nat.le_refl _) hi, mled_proof l.length l i l[i] (Nat.le_refl _) (List.getElem?_eq_getElem hi)]
  simp
end Go.Proofs.YtoahnhphfabajaaGreat
namespace Go.Proofs.YtoahnhphfabajaaGreat
set_option maxRecDepth 10000
open Go.RowKit
set_option linter.unusedVariables false
set_option linter.unusedSimpArgs false
set_option linter.unnecessarySimpa false

theorem rorW (x : UInt32) (n m : Nat) (c d : Int) (hc : c = ((2 ^ n : Nat) : Int)) (hd : d = ((2 ^ m : Nat) : Int)) (hm : m = 32 - n) : bits .or .u32 ((x.toNat : Int) * d % 4294967296) ((x.toNat : Int) / c) = ((ror x n).toNat : Int) := by
  subst hc hd hm
  rw [← IntKind.wrap_u32, shlW, shrW, bitsOr, UInt32.or_comm]; rfl
theorem rotl_2 (x : UInt32) (w : World) : Calls Tryz.prog 126 #[.int .u32 x.toNat, .int .i64 (-2)] w fun e w' => e = .returned (.int .u32 (ror x 2).toNat) ∧ w = w' := by
  have hx := w_lt x
  have hb : bits .and .u64 (IntKind.u64.wrap (-2)) 31 = 30 := by decide +kernel
  have hv := Lib.hid (rorW x 2 30 4 1073741824 (by decide) (by decide) (by decide))
  go_enter Tryz.func126, Tryz.ntmps126
  go_wp2_with fail
  go_ret
  exact ⟨by rw [← hv.out]; rfl, rfl⟩
theorem right_2 (x : UInt32) (w : World) : Calls Tryz.prog 117 #[.int .u32 x.toNat, .int .i64 2] w fun e w' => e = .returned (.int .u32 (ror x 2).toNat) ∧ w = w' := by
  have RL := Lib.hid (rotl_2 x w)
  go_enter Tryz.func117, Tryz.ntmps117
  go_wp2_with fail
  refine RL.out.mono ?_
  rintro e ww ⟨rfl, rfl⟩
  go_wp2_with fail
  go_ret
  exact ⟨rfl, rfl⟩
theorem rotl_6 (x : UInt32) (w : World) : Calls Tryz.prog 126 #[.int .u32 x.toNat, .int .i64 (-6)] w fun e w' => e = .returned (.int .u32 (ror x 6).toNat) ∧ w = w' := by
  have hx := w_lt x
  have hb : bits .and .u64 (IntKind.u64.wrap (-6)) 31 = 26 := by decide +kernel
  have hv := Lib.hid (rorW x 6 26 64 67108864 (by decide) (by decide) (by decide))
  go_enter Tryz.func126, Tryz.ntmps126
  go_wp2_with fail
  go_ret
  exact ⟨by rw [← hv.out]; rfl, rfl⟩
theorem right_6 (x : UInt32) (w : World) : Calls Tryz.prog 117 #[.int .u32 x.toNat, .int .i64 6] w fun e w' => e = .returned (.int .u32 (ror x 6).toNat) ∧ w = w' := by
  have RL := Lib.hid (rotl_6 x w)
  go_enter Tryz.func117, Tryz.ntmps117
  go_wp2_with fail
  refine RL.out.mono ?_
  rintro e ww ⟨rfl, rfl⟩
  go_wp2_with fail
  go_ret
  exact ⟨rfl, rfl⟩
theorem rotl_7 (x : UInt32) (w : World) : Calls Tryz.prog 126 #[.int .u32 x.toNat, .int .i64 (-7)] w fun e w' => e = .returned (.int .u32 (ror x 7).toNat) ∧ w = w' := by
  have hx := w_lt x
  have hb : bits .and .u64 (IntKind.u64.wrap (-7)) 31 = 25 := by decide +kernel
  have hv := Lib.hid (rorW x 7 25 128 33554432 (by decide) (by decide) (by decide))
  go_enter Tryz.func126, Tryz.ntmps126
  go_wp2_with fail
  go_ret
  exact ⟨by rw [← hv.out]; rfl, rfl⟩
theorem right_7 (x : UInt32) (w : World) : Calls Tryz.prog 117 #[.int .u32 x.toNat, .int .i64 7] w fun e w' => e = .returned (.int .u32 (ror x 7).toNat) ∧ w = w' := by
  have RL := Lib.hid (rotl_7 x w)
  go_enter Tryz.func117, Tryz.ntmps117
  go_wp2_with fail
  refine RL.out.mono ?_
  rintro e ww ⟨rfl, rfl⟩
  go_wp2_with fail
  go_ret
  exact ⟨rfl, rfl⟩
theorem rotl_11 (x : UInt32) (w : World) : Calls Tryz.prog 126 #[.int .u32 x.toNat, .int .i64 (-11)] w fun e w' => e = .returned (.int .u32 (ror x 11).toNat) ∧ w = w' := by
  have hx := w_lt x
  have hb : bits .and .u64 (IntKind.u64.wrap (-11)) 31 = 21 := by decide +kernel
  have hv := Lib.hid (rorW x 11 21 2048 2097152 (by decide) (by decide) (by decide))
  go_enter Tryz.func126, Tryz.ntmps126
  go_wp2_with fail
  go_ret
  exact ⟨by rw [← hv.out]; rfl, rfl⟩
theorem right_11 (x : UInt32) (w : World) : Calls Tryz.prog 117 #[.int .u32 x.toNat, .int .i64 11] w fun e w' => e = .returned (.int .u32 (ror x 11).toNat) ∧ w = w' := by
  have RL := Lib.hid (rotl_11 x w)
  go_enter Tryz.func117, Tryz.ntmps117
  go_wp2_with fail
  refine RL.out.mono ?_
  rintro e ww ⟨rfl, rfl⟩
  go_wp2_with fail
  go_ret
  exact ⟨rfl, rfl⟩
theorem rotl_13 (x : UInt32) (w : World) : Calls Tryz.prog 126 #[.int .u32 x.toNat, .int .i64 (-13)] w fun e w' => e = .returned (.int .u32 (ror x 13).toNat) ∧ w = w' := by
  have hx := w_lt x
  have hb : bits .and .u64 (IntKind.u64.wrap (-13)) 31 = 19 := by decide +kernel
  have hv := Lib.hid (rorW x 13 19 8192 524288 (by decide) (by decide) (by decide))
  go_enter Tryz.func126, Tryz.ntmps126
  go_wp2_with fail
  go_ret
  exact ⟨by rw [← hv.out]; rfl, rfl⟩
theorem right_13 (x : UInt32) (w : World) : Calls Tryz.prog 117 #[.int .u32 x.toNat, .int .i64 13] w fun e w' => e = .returned (.int .u32 (ror x 13).toNat) ∧ w = w' := by
  have RL := Lib.hid (rotl_13 x w)
  go_enter Tryz.func117, Tryz.ntmps117
  go_wp2_with fail
  refine RL.out.mono ?_
  rintro e ww ⟨rfl, rfl⟩
  go_wp2_with fail
  go_ret
  exact ⟨rfl, rfl⟩
theorem rotl_17 (x : UInt32) (w : World) : Calls Tryz.prog 126 #[.int .u32 x.toNat, .int .i64 (-17)] w fun e w' => e = .returned (.int .u32 (ror x 17).toNat) ∧ w = w' := by
  have hx := w_lt x
  have hb : bits .and .u64 (IntKind.u64.wrap (-17)) 31 = 15 := by decide +kernel
  have hv := Lib.hid (rorW x 17 15 131072 32768 (by decide) (by decide) (by decide))
  go_enter Tryz.func126, Tryz.ntmps126
  go_wp2_with fail
  go_ret
  exact ⟨by rw [← hv.out]; rfl, rfl⟩
theorem right_17 (x : UInt32) (w : World) : Calls Tryz.prog 117 #[.int .u32 x.toNat, .int .i64 17] w fun e w' => e = .returned (.int .u32 (ror x 17).toNat) ∧ w = w' := by
  have RL := Lib.hid (rotl_17 x w)
  go_enter Tryz.func117, Tryz.ntmps117
  go_wp2_with fail
  refine RL.out.mono ?_
  rintro e ww ⟨rfl, rfl⟩
  go_wp2_with fail
  go_ret
  exact ⟨rfl, rfl⟩
theorem rotl_18 (x : UInt32) (w : World) : Calls Tryz.prog 126 #[.int .u32 x.toNat, .int .i64 (-18)] w fun e w' => e = .returned (.int .u32 (ror x 18).toNat) ∧ w = w' := by
  have hx := w_lt x
  have hb : bits .and .u64 (IntKind.u64.wrap (-18)) 31 = 14 := by decide +kernel
  have hv := Lib.hid (rorW x 18 14 262144 16384 (by decide) (by decide) (by decide))
  go_enter Tryz.func126, Tryz.ntmps126
  go_wp2_with fail
  go_ret
  exact ⟨by rw [← hv.out]; rfl, rfl⟩
theorem right_18 (x : UInt32) (w : World) : Calls Tryz.prog 117 #[.int .u32 x.toNat, .int .i64 18] w fun e w' => e = .returned (.int .u32 (ror x 18).toNat) ∧ w = w' := by
  have RL := Lib.hid (rotl_18 x w)
  go_enter Tryz.func117, Tryz.ntmps117
  go_wp2_with fail
  refine RL.out.mono ?_
  rintro e ww ⟨rfl, rfl⟩
  go_wp2_with fail
  go_ret
  exact ⟨rfl, rfl⟩
theorem rotl_19 (x : UInt32) (w : World) : Calls Tryz.prog 126 #[.int .u32 x.toNat, .int .i64 (-19)] w fun e w' => e = .returned (.int .u32 (ror x 19).toNat) ∧ w = w' := by
  have hx := w_lt x
  have hb : bits .and .u64 (IntKind.u64.wrap (-19)) 31 = 13 := by decide +kernel
  have hv := Lib.hid (rorW x 19 13 524288 8192 (by decide) (by decide) (by decide))
  go_enter Tryz.func126, Tryz.ntmps126
  go_wp2_with fail
  go_ret
  exact ⟨by rw [← hv.out]; rfl, rfl⟩
theorem right_19 (x : UInt32) (w : World) : Calls Tryz.prog 117 #[.int .u32 x.toNat, .int .i64 19] w fun e w' => e = .returned (.int .u32 (ror x 19).toNat) ∧ w = w' := by
  have RL := Lib.hid (rotl_19 x w)
  go_enter Tryz.func117, Tryz.ntmps117
  go_wp2_with fail
  refine RL.out.mono ?_
  rintro e ww ⟨rfl, rfl⟩
  go_wp2_with fail
  go_ret
  exact ⟨rfl, rfl⟩
theorem rotl_22 (x : UInt32) (w : World) : Calls Tryz.prog 126 #[.int .u32 x.toNat, .int .i64 (-22)] w fun e w' => e = .returned (.int .u32 (ror x 22).toNat) ∧ w = w' := by
  have hx := w_lt x
  have hb : bits .and .u64 (IntKind.u64.wrap (-22)) 31 = 10 := by decide +kernel
  have hv := Lib.hid (rorW x 22 10 4194304 1024 (by decide) (by decide) (by decide))
  go_enter Tryz.func126, Tryz.ntmps126
  go_wp2_with fail
  go_ret
  exact ⟨by rw [← hv.out]; rfl, rfl⟩
theorem right_22 (x : UInt32) (w : World) : Calls Tryz.prog 117 #[.int .u32 x.toNat, .int .i64 22] w fun e w' => e = .returned (.int .u32 (ror x 22).toNat) ∧ w = w' := by
  have RL := Lib.hid (rotl_22 x w)
  go_enter Tryz.func117, Tryz.ntmps117
  go_wp2_with fail
  refine RL.out.mono ?_
  rintro e ww ⟨rfl, rfl⟩
  go_wp2_with fail
  go_ret
  exact ⟨rfl, rfl⟩
theorem rotl_25 (x : UInt32) (w : World) : Calls Tryz.prog 126 #[.int .u32 x.toNat, .int .i64 (-25)] w fun e w' => e = .returned (.int .u32 (ror x 25).toNat) ∧ w = w' := by
  have hx := w_lt x
  have hb : bits .and .u64 (IntKind.u64.wrap (-25)) 31 = 7 := by decide +kernel
  have hv := Lib.hid (rorW x 25 7 33554432 128 (by decide) (by decide) (by decide))
  go_enter Tryz.func126, Tryz.ntmps126
  go_wp2_with fail
  go_ret
  exact ⟨by rw [← hv.out]; rfl, rfl⟩
theorem right_25 (x : UInt32) (w : World) : Calls Tryz.prog 117 #[.int .u32 x.toNat, .int .i64 25] w fun e w' => e = .returned (.int .u32 (ror x 25).toNat) ∧ w = w' := by
  have RL := Lib.hid (rotl_25 x w)
  go_enter Tryz.func117, Tryz.ntmps117
  go_wp2_with fail
  refine RL.out.mono ?_
  rintro e ww ⟨rfl, rfl⟩
  go_wp2_with fail
  go_ret
  exact ⟨rfl, rfl⟩
end Go.Proofs.YtoahnhphfabajaaGreat
namespace Go.Proofs.YtoahnhphfabajaaGreat
set_option maxRecDepth 10000
open Go.RowKit
set_option linter.unusedVariables false
set_option linter.unusedSimpArgs false

section
variable {P : Program} {ops : Array Oper} {rest : List Oper} {o : Oper} {a : Act} {w : World} {Q : Exit → Act → World → Prop}
theorem run_alloc_arr (w : World) (ty : TypeId) (zs : Array Value) (hz : (P.info? ty).bind (·.zero) = some (.agg zs)) : (Instr.alloc ty true (.tuple #[])).run P w = .ok (.pointer (some ⟨w.heap.size, 0, none⟩)) (w.alloc (.cells zs ty)) := by
  cases hq : P.info? ty with
  | none => simp [hq] at hz
  | some i =>
    simp only [hq, Option.bind_some] at hz
    simp [Instr.alloc, zeroValue, typeInfo, hq, hz, newVar, newRow, Value.cells]
/-- A variable of an array type: its zeros. -/
theorem wpList_alloc_arr (hgd : o.guard = none) (ty : TypeId) (ho : o.op = .alloc ty) (zs : Array Value) (hz : (P.info? ty).bind (·.zero) = some (.agg zs))
    (h : wpList P ops Q rest (a.put o.dst (.pointer (some ⟨w.heap.size, 0, none⟩))) (w.alloc (.cells zs ty))) : wpList P ops Q (o :: rest) a w :=
  wpList_plain hgd fun _ hK => by
    unfold Oper.wp execOp
    simp only [ho, Sem.run_bind, Sem.run_pure, run_alloc_arr w ty zs hz, Result.andThen_ok]
    exact hK _ _ h
/-- A whole array out of its block. -/
theorem wpList_load_blk (hgd : o.guard = none) (ty : TypeId) (x : Operand) (ho : o.op = .load ty x) (g : Nat) (hx : a.eval x = .pointer (some ⟨g, 0, none⟩)) (cs : List Value) (t : TypeId) (d : TypeDesc) (hb : Blk w g cs t)
    (hu : P.underlying ty = some d) (hd : d.isRow = true) (hi : (P.info? ty).map (·.size) = some cs.length)
    (h : wpList P ops Q rest (a.put o.dst (.agg cs.toArray)) w) : wpList P ops Q (o :: rest) a w := by
  have hr := hb.range 0 cs.length
  rw [List.drop_zero, List.take_length] at hr
  exact wpList_load_mid hgd ty x ho g 0 hx cs d hr hu hd hi h
/-- A whole array into its block: the world behind it left open. -/
theorem wpList_store_blk (hgd : o.guard = none) (ty : TypeId) (x y : Operand) (ho : o.op = .store ty x y) (g : Nat) (hx : a.eval x = .pointer (some ⟨g, 0, none⟩)) (cs old : List Value) (t : TypeId) (hy : a.eval y = .agg cs.toArray) (hb : Blk w g old t)
    (hl : old.length = cs.length) (hi : (P.info? ty).map (·.size) = some cs.length) (h1 : ∀ u ∈ cs, u.oneCell' = true)
    (h : ∀ w', Blk w' g cs t → Turns [g] w w' → w'.heap.size = w.heap.size → wpList P ops Q rest (a.put o.dst undef) w') : wpList P ops Q (o :: rest) a w := by
  refine wpList_store_mid hgd ty x y ho g 0 cs.toArray hx hy (by simpa [hl] using hb.there 0 cs.length (by omega)) (by simpa using hi) (all_oneCell_toArray h1) ?_
  have hb' := hb.setCells cs 0
  rw [spl_whole _ _ hl] at hb'
  refine h _ (by simpa using hb') (by simpa using Turns.setCells (L := [g]) (a := w) (b := g) (.inl (by simp)) cs 0 (Turns.refl [g] w)) ?_
  have : ∀ (vs : List Value) (w : World) (k : Nat), (w.setCells g k vs).heap.size = w.heap.size := by
    intro vs
    induction vs with
    | nil => intro w k; rfl
    | cons v vs ih => intro w k; rw [World.setCells, ih]; simp [World.setCell]
  exact this _ _ _
end
end Go.Proofs.YtoahnhphfabajaaGreat
namespace Go.Proofs.YtoahnhphfabajaaGreat
set_option maxRecDepth 10000
open Go.RowKit
set_option linter.unusedVariables false
set_option linter.unusedSimpArgs false
set_option linter.unnecessarySimpa false

def u32s (l : List UInt32) : List Value := l.map u32v
theorem u32s_length (l : List UInt32) : (u32s l).length = l.length := by simp [u32s]
theorem u32s_one (l : List UInt32) : ∀ u ∈ u32s l, u.oneCell' = true := by
  intro u hu
  obtain ⟨b, _, rfl⟩ := List.mem_map.1 hu
  rfl
def ints32 (l : List UInt32) : List Int := l.map fun x => (x.toNat : Int)
theorem ints32_map (l : List UInt32) : (ints32 l).map (Value.int .u32) = u32s l := by simp [ints32, u32s, u32v]
def zerosW (n : Nat) : List UInt32 := List.replicate n 0
theorem zero_w64 : (Tryz.prog.info? 165).bind (·.zero) = some (.agg (u32s (zerosW 64)).toArray) := by kernel_rfl
theorem zero_w8 : (Tryz.prog.info? 175).bind (·.zero) = some (.agg (u32s (zerosW 8)).toArray) := by kernel_rfl
theorem size_w64 : (Tryz.prog.info? 165).map (·.size) = some 64 := by kernel_rfl
theorem size_w8 : (Tryz.prog.info? 175).map (·.size) = some 8 := by kernel_rfl
theorem zerosW_len (n : Nat) : (u32s (zerosW n)).length = n := by rw [u32s_length]; simp [zerosW]
theorem shaK_len : (u32s shaK).length = 64 := by rw [u32s_length]; rfl
theorem shaH_len : (u32s shaH).length = 8 := by rw [u32s_length]; rfl

set_option maxRecDepth 100000 in
set_option maxHeartbeats 2000000 in
theorem begun_any (w : World) : Calls Tryz.prog 104 #[] w fun e w' => e = .returned (.agg (u32s shaH).toArray) ∧ Turns [] w w' := by
  have hz := zero_w8
  have e1 := ints32_map shaH
  have hl := shaH_len
  have hzl := zerosW_len 8
  have h1 := u32s_one shaH
  rw [← e1] at hl h1
  obtain ⟨W', hr, hb, ht⟩ := store_var (P := Tryz.prog) w (u32s (zerosW 8)).toArray 175 ((ints32 shaH).map (Value.int .u32)) (by rw [hl]; simpa using hzl) h1
  generalize u32s (zerosW 8) = zz at hz hr
  generalize u32s shaH = ks at e1
  have E1 := Lib.hid e1
  have hsz : (Tryz.prog.info? 175).map (·.size) = some ((ints32 shaH).map (Value.int .u32)).toArray.size := by rw [size_w8, List.size_toArray, hl]
  have B0 := Lib.hid (And.intro hb (And.intro ht hsz))
  clear e1 hl hzl h1 hb ht hsz
  go_enter Tryz.func104, Tryz.ntmps104
  go_wp2_with (first
    | (refine wpList_alloc_arr rfl 175 rfl zz.toArray hz ?_)
    | (refine wpList_buildFlatArrTo rfl 175 91 8 _ rfl .u32 (ints32 shaH) (some 1) rfl Tryz.underlying175 (by kernel_rfl) (by kernel_rfl) (by kernel_rfl) ?_)
    | fail)
  refine bodyPost_ret (results_cell_row rfl _ _ w.heap.size _ _ _ _ rfl B0.out.1 Tryz.underlying175 rfl B0.out.2.2) rfl ?_
  exact ⟨by rw [← E1.out], B0.out.2.1⟩
set_option maxRecDepth 100000 in
set_option maxHeartbeats 2000000 in
theorem keys_any (w : World) : Calls Tryz.prog 116 #[] w fun e w' => e = .returned (.agg (u32s shaK).toArray) ∧ Turns [] w w' := by
  have hz := zero_w64
  have e1 := ints32_map shaK
  have hl := shaK_len
  have hzl := zerosW_len 64
  have h1 := u32s_one shaK
  rw [← e1] at hl h1
  obtain ⟨W', hr, hb, ht⟩ := store_var (P := Tryz.prog) w (u32s (zerosW 64)).toArray 165 ((ints32 shaK).map (Value.int .u32)) (by rw [hl]; simpa using hzl) h1
  generalize u32s (zerosW 64) = zz at hz hr
  generalize u32s shaK = ks at e1
  have E1 := Lib.hid e1
  have hsz : (Tryz.prog.info? 165).map (·.size) = some ((ints32 shaK).map (Value.int .u32)).toArray.size := by rw [size_w64, List.size_toArray, hl]
  have B0 := Lib.hid (And.intro hb (And.intro ht hsz))
  clear e1 hl hzl h1 hb ht hsz
  go_enter Tryz.func116, Tryz.ntmps116
  go_wp2_with (first
    | (refine wpList_alloc_arr rfl 165 rfl zz.toArray hz ?_)
    | (refine wpList_buildFlatArrTo rfl 165 91 64 _ rfl .u32 (ints32 shaK) (some 1) rfl Tryz.underlying165 (by kernel_rfl) (by kernel_rfl) (by kernel_rfl) ?_)
    | fail)
  refine bodyPost_ret (results_cell_row rfl _ _ w.heap.size _ _ _ _ rfl B0.out.1 Tryz.underlying165 rfl B0.out.2.2) rfl ?_
  exact ⟨by rw [← E1.out], B0.out.2.1⟩
set_option maxRecDepth 100000 in
set_option maxHeartbeats 2000000 in
theorem words_any (w : World) : Calls Tryz.prog 91 #[] w fun e w' => e = .returned (.agg (u32s shaK).toArray) ∧ Turns [] w w' := by
  have hz := zero_w64
  have e1 := ints32_map shaK
  have hl := shaK_len
  have hzl := zerosW_len 64
  have h1 := u32s_one shaK
  rw [← e1] at hl h1
  obtain ⟨W', hr, hb, ht⟩ := store_var (P := Tryz.prog) w (u32s (zerosW 64)).toArray 165 ((ints32 shaK).map (Value.int .u32)) (by rw [hl]; simpa using hzl) h1
  generalize u32s (zerosW 64) = zz at hz hr
  generalize u32s shaK = ks at e1
  have E1 := Lib.hid e1
  have hsz : (Tryz.prog.info? 165).map (·.size) = some ((ints32 shaK).map (Value.int .u32)).toArray.size := by rw [size_w64, List.size_toArray, hl]
  have B0 := Lib.hid (And.intro hb (And.intro ht hsz))
  clear e1 hl hzl h1 hb ht hsz
  go_enter Tryz.func91, Tryz.ntmps91
  go_wp2_with (first
    | (refine wpList_alloc_arr rfl 165 rfl zz.toArray hz ?_)
    | (refine wpList_buildFlatArrTo rfl 165 91 64 _ rfl .u32 (ints32 shaK) (some 1) rfl Tryz.underlying165 (by kernel_rfl) (by kernel_rfl) (by kernel_rfl) ?_)
    | fail)
  refine bodyPost_ret (results_cell_row rfl _ _ w.heap.size _ _ _ _ rfl B0.out.1 Tryz.underlying165 rfl B0.out.2.2) rfl ?_
  exact ⟨by rw [← E1.out], B0.out.2.1⟩
end Go.Proofs.YtoahnhphfabajaaGreat
