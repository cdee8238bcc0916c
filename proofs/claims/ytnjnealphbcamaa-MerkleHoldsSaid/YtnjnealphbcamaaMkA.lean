/- Roots and proofs in plain words, no program in sight. -/
import Derived.Test.YtnjnealphbcamaaSha0
namespace Go.Proofs.Ytnjnealphbcamaa
open Go.RowKit
set_option linter.unusedVariables false
set_option maxRecDepth 10000

def leafH (b : List UInt8) : List UInt8 := sha (0 :: b)
def twoH (a b : List UInt8) : List UInt8 := sha (1 :: (a ++ b))
theorem twoH_len (a b : List UInt8) : (twoH a b).length = 32 := sha_len _
/-- The greatest power of two that is less than n: from k on. -/
def cutF : Nat → Nat → Nat → Nat
  | 0, k, _ => k
  | f + 1, k, n => if 2 * k < n then cutF f (2 * k) n else k
def mcut (n : Nat) : Nat := cutF n 1 n
theorem cutF_pos : ∀ (f k n : Nat), 0 < k → 0 < cutF f k n
  | 0, k, _, h => h
  | f + 1, k, n, h => by
    rw [cutF]
    split
    · exact cutF_pos f _ _ (by omega)
    · exact h
theorem cutF_lt : ∀ (f k n : Nat), k < n → cutF f k n < n
  | 0, k, _, h => h
  | f + 1, k, n, h => by
    rw [cutF]
    split
    · exact cutF_lt f _ _ (by omega)
    · exact h
theorem cutF_stop : ∀ (f k n : Nat), ¬ 2 * k < n → cutF f k n = k
  | 0, k, _, _ => rfl
  | f + 1, k, n, h => by rw [cutF, if_neg h]
/-- The loop may go on for ever: fuel does not matter from here on. -/
theorem cutF_more : ∀ (f g k n : Nat), 0 < k → n ≤ k + f → n ≤ k + g → cutF f k n = cutF g k n
  | 0, g, k, n, h0, h1, h2 => by rw [cutF_stop g k n (by omega)]; rfl
  | f + 1, 0, k, n, h0, h1, h2 => by rw [cutF_stop (f + 1) k n (by omega)]; rfl
  | f + 1, g + 1, k, n, h0, h1, h2 => by
    rw [cutF, cutF]
    split
    · exact cutF_more f g (2 * k) n (by omega) (by omega) (by omega)
    · rfl
theorem cutF_big : ∀ (f k n : Nat), 0 < k → n ≤ k + f → n ≤ 2 * cutF f k n
  | 0, k, n, h0, h1 => by rw [cutF]; omega
  | f + 1, k, n, h0, h1 => by
    rw [cutF]
    split
    · exact cutF_big f (2 * k) n (by omega) (by omega)
    · omega
theorem mcut_pos (n : Nat) : 0 < mcut n := cutF_pos _ _ _ (by omega)
theorem mcut_lt (n : Nat) (h : 2 ≤ n) : mcut n < n := cutF_lt _ _ _ (by omega)
theorem mcut_big (n : Nat) : n ≤ 2 * mcut n := cutF_big _ _ _ (by omega) (by omega)
theorem cutF_pow : ∀ (f k n m : Nat), k = 2 ^ m → ∃ m', cutF f k n = 2 ^ m'
  | 0, k, n, m, h => ⟨m, h⟩
  | f + 1, k, n, m, h => by
    rw [cutF]
    split
    · exact cutF_pow f (2 * k) n (m + 1) (by rw [h, Nat.pow_succ]; omega)
    · exact ⟨m, h⟩
theorem mcut_pow (n : Nat) : ∃ m, mcut n = 2 ^ m := cutF_pow _ _ _ 0 rfl
/-- Where n fits into a power, its halves fit into the one below. -/
theorem mcut_half (n m : Nat) (h2 : 2 ≤ n) (h : n ≤ 2 ^ (m + 1)) : mcut n ≤ 2 ^ m := by
  obtain ⟨j, hj⟩ := mcut_pow n
  have hlt := mcut_lt n h2
  rw [hj] at hlt ⊢
  have : j < m + 1 := (Nat.pow_lt_pow_iff_right (by omega : 1 < 2)).1 (by omega)
  exact Nat.pow_le_pow_right (by omega) (by omega)

/-- The sum of a row of sums. -/
def mroot (l : List (List UInt8)) : List UInt8 :=
  if h : l.length < 2 then (match l with
    | [] => sha []
    | x :: _ => x)
  else twoH (mroot (l.take (mcut l.length))) (mroot (l.drop (mcut l.length)))
termination_by l.length
decreasing_by
  · have := mcut_lt l.length (by omega); simp; omega
  · have := mcut_pos l.length; simp; omega
theorem mroot_nil : mroot [] = sha [] := by rw [mroot]; simp
theorem mroot_one (x : List UInt8) : mroot [x] = x := by rw [mroot]; simp
theorem mroot_two (l : List (List UInt8)) (h : 2 ≤ l.length) : mroot l = twoH (mroot (l.take (mcut l.length))) (mroot (l.drop (mcut l.length))) := by
  conv => lhs; rw [mroot]
  rw [dif_neg (by omega)]
theorem mroot_len (l : List (List UInt8)) (h : ∀ x ∈ l, x.length = 32) : (mroot l).length = 32 := by
  by_cases h2 : 2 ≤ l.length
  · rw [mroot_two l h2]; exact twoH_len _ _
  · match l, h, h2 with
    | [], _, _ => rw [mroot_nil]; exact sha_len _
    | [x], h, _ => rw [mroot_one]; exact h x (by simp)
    | _ :: _ :: _, _, h2 => simp at h2
/-- A place's proof. -/
def mproof (l : List (List UInt8)) (i : Nat) : List (List UInt8) :=
  if h : l.length < 2 then []
  else if i < mcut l.length then mproof (l.take (mcut l.length)) i ++ [mroot (l.drop (mcut l.length))]
  else mproof (l.drop (mcut l.length)) (i - mcut l.length) ++ [mroot (l.take (mcut l.length))]
termination_by l.length
decreasing_by
  · have := mcut_lt l.length (by omega); simp; omega
  · have := mcut_pos l.length; simp; omega
theorem mproof_few (l : List (List UInt8)) (i : Nat) (h : l.length < 2) : mproof l i = [] := by rw [mproof, dif_pos h]
theorem mproof_left (l : List (List UInt8)) (i : Nat) (h : 2 ≤ l.length) (hi : i < mcut l.length) : mproof l i = mproof (l.take (mcut l.length)) i ++ [mroot (l.drop (mcut l.length))] := by
  conv => lhs; rw [mproof]
  rw [dif_neg (by omega), if_pos hi]
theorem mproof_right (l : List (List UInt8)) (i : Nat) (h : 2 ≤ l.length) (hi : ¬ i < mcut l.length) : mproof l i = mproof (l.drop (mcut l.length)) (i - mcut l.length) ++ [mroot (l.take (mcut l.length))] := by
  conv => lhs; rw [mproof]
  rw [dif_neg (by omega), if_neg hi]
/-- From the root down: does the other sum stand ahead? -/
def mway (i n : Nat) : List Bool :=
  if h : n < 2 then []
  else if i < mcut n then false :: mway i (mcut n) else true :: mway (i - mcut n) (n - mcut n)
termination_by n
decreasing_by
  · have := mcut_lt n (by omega); omega
  · have := mcut_pos n; omega
theorem mway_few (i n : Nat) (h : n < 2) : mway i n = [] := by rw [mway, dif_pos h]
theorem mway_left (i n : Nat) (h : 2 ≤ n) (hi : i < mcut n) : mway i n = false :: mway i (mcut n) := by
  conv => lhs; rw [mway]
  rw [dif_neg (by omega), if_pos hi]
theorem mway_right (i n : Nat) (h : 2 ≤ n) (hi : ¬ i < mcut n) : mway i n = true :: mway (i - mcut n) (n - mcut n) := by
  conv => lhs; rw [mway]
  rw [dif_neg (by omega), if_neg hi]
theorem mway_le : ∀ (m n i : Nat), n ≤ 2 ^ m → (mway i n).length ≤ m
  | 0, n, i, h => by rw [mway_few i n (by simpa using Nat.lt_succ_of_le h)]; simp
  | m + 1, n, i, h => by
    by_cases h2 : n < 2
    · rw [mway_few i n h2]; simp
    · have hh := mcut_half n m (by omega) h
      have hb := mcut_big n
      by_cases hi : i < mcut n
      · rw [mway_left i n (by omega) hi]
        have := mway_le m (mcut n) i hh
        simp; omega
      · rw [mway_right i n (by omega) hi]
        have := mway_le m (n - mcut n) (i - mcut n) (by omega)
        simp; omega
theorem mproof_len : ∀ (N : Nat) (l : List (List UInt8)) (i : Nat), l.length ≤ N → i < l.length → (mproof l i).length = (mway i l.length).length
  | 0, l, i, h, hi => by omega
  | N + 1, l, i, h, hi => by
    by_cases h2 : l.length < 2
    · rw [mproof_few l i h2, mway_few i _ h2]; rfl
    · have hlt := mcut_lt l.length (by omega)
      have hp := mcut_pos l.length
      by_cases hk : i < mcut l.length
      · rw [mproof_left l i (by omega) hk, mway_left i _ (by omega) hk]
        have := mproof_len N (l.take (mcut l.length)) i (by simp; omega) (by simp; omega)
        rw [List.length_append, this]
        simp [Nat.min_eq_left (Nat.le_of_lt hlt)]
      · rw [mproof_right l i (by omega) hk, mway_right i _ (by omega) hk]
        have := mproof_len N (l.drop (mcut l.length)) (i - mcut l.length) (by simp; omega) (by simp; omega)
        rw [List.length_append, this]
        simp
/-- A leaf led up: the ways and the sums in one order, from the leaf up. -/
def fold2 (h : List UInt8) (z : List (Bool × List UInt8)) : List UInt8 := z.foldl (fun x q => if q.1 then twoH q.2 x else twoH x q.2) h
theorem fold2_snoc (h : List UInt8) (z : List (Bool × List UInt8)) (q : Bool × List UInt8) : fold2 h (z ++ [q]) = if q.1 then twoH q.2 (fold2 h z) else twoH (fold2 h z) q.2 := by
  unfold fold2; rw [List.foldl_append]; rfl
/-- What a proof leads a leaf to. -/
def mled (h : List UInt8) (i n : Nat) (p : List (List UInt8)) : List UInt8 := fold2 h ((mway i n).reverse.zip p)
def mcheck (root leaf : List UInt8) (i n : Nat) (p : List (List UInt8)) : Bool := (mway i n).length == p.length && mled leaf i n p == root
theorem zip_snoc {α β : Type} : ∀ (a : List α) (b : List β) (x : α) (y : β), a.length = b.length → (a ++ [x]).zip (b ++ [y]) = a.zip b ++ [(x, y)]
  | [], [], x, y, _ => rfl
  | _ :: _, [], _, _, h => by simp at h
  | [], _ :: _, _, _, h => by simp at h
  | a :: as, b :: bs, x, y, h => by
    rw [List.cons_append, List.cons_append, List.zip_cons_cons, zip_snoc as bs x y (by simpa using h)]; rfl
theorem mled_left (h : List UInt8) (i n : Nat) (p : List (List UInt8)) (x : List UInt8) (h2 : 2 ≤ n) (hi : i < mcut n) (hl : (mway i (mcut n)).length = p.length) :
    mled h i n (p ++ [x]) = twoH (mled h i (mcut n) p) x := by
  unfold mled
  rw [mway_left i n h2 hi, List.reverse_cons, zip_snoc _ _ _ _ (by simpa using hl), fold2_snoc]; rfl
theorem mled_right (h : List UInt8) (i n : Nat) (p : List (List UInt8)) (x : List UInt8) (h2 : 2 ≤ n) (hi : ¬ i < mcut n) (hl : (mway (i - mcut n) (n - mcut n)).length = p.length) :
    mled h i n (p ++ [x]) = twoH x (mled h (i - mcut n) (n - mcut n) p) := by
  unfold mled
  rw [mway_right i n h2 hi, List.reverse_cons, zip_snoc _ _ _ _ (by simpa using hl), fold2_snoc]; rfl
/-- Each place's proof leads its own sum to the root. -/
theorem mled_proof : ∀ (N : Nat) (l : List (List UInt8)) (i : Nat) (x : List UInt8), l.length ≤ N → l[i]? = some x → mled x i l.length (mproof l i) = mroot l
  | 0, l, i, x, h, hi => by have := (List.getElem?_eq_some_iff.1 hi).1; omega
  | N + 1, l, i, x, h, hx => by
    have hi := (List.getElem?_eq_some_iff.1 hx).1
    by_cases h2 : l.length < 2
    · have h1 : l.length = 1 := by omega
      obtain ⟨y, rfl⟩ := List.length_eq_one_iff.1 h1
      have : i = 0 := by simpa using hi
      subst this
      have : y = x := by simpa using hx
      subst this
      rw [mproof_few _ _ h2, mroot_one]
      unfold mled
      rw [mway_few _ _ h2]; rfl
    · have hlt := mcut_lt l.length (by omega)
      have hp := mcut_pos l.length
      by_cases hk : i < mcut l.length
      · have ih := mled_proof N (l.take (mcut l.length)) i x (by simp; omega) (by rw [List.getElem?_take, if_pos hk]; exact hx)
        have hl := mproof_len l.length (l.take (mcut l.length)) i (by simp; omega) (by simp; omega)
        have ht : (l.take (mcut l.length)).length = mcut l.length := by simp; omega
        rw [ht] at ih hl
        rw [mproof_left l i (by omega) hk, mled_left _ _ _ _ _ (by omega) hk hl.symm, mroot_two l (by omega), ih]
      · have ih := mled_proof N (l.drop (mcut l.length)) (i - mcut l.length) x (by simp; omega) (by rw [List.getElem?_drop, show mcut l.length + (i - mcut l.length) = i by omega]; exact hx)
        have hl := mproof_len l.length (l.drop (mcut l.length)) (i - mcut l.length) (by simp) (by simp; omega)
        have ht : (l.drop (mcut l.length)).length = l.length - mcut l.length := by simp
        rw [ht] at ih hl
        rw [mproof_right l i (by omega) hk, mled_right _ _ _ _ _ (by omega) hk hl.symm, mroot_two l (by omega), ih]
theorem mcheck_proof (l : List (List UInt8)) (i : Nat) (hi : i < l.length) : mcheck (mroot l) l[i] i l.length (mproof l i) = true := by
  unfold mcheck
  rw [mproof_len l.length l i (Nat.le_refl _) hi, mled_proof l.length l i l[i] (Nat.le_refl _) (List.getElem?_eq_getElem hi)]
  simp
theorem mproof_all (P : List UInt8 → Prop) (hP : ∀ l, (∀ x ∈ l, P x) → P (mroot l)) : ∀ (N : Nat) (l : List (List UInt8)) (i : Nat), l.length ≤ N → (∀ x ∈ l, P x) → ∀ x ∈ mproof l i, P x
  | 0, l, i, h, hl, x, hx => by rw [mproof_few l i (by omega)] at hx; simp at hx
  | N + 1, l, i, h, hl, x, hx => by
    by_cases h2 : l.length < 2
    · rw [mproof_few l i h2] at hx; simp at hx
    · have hlt := mcut_lt l.length (by omega)
      have hp := mcut_pos l.length
      have ht : ∀ x ∈ l.take (mcut l.length), P x := fun x hx => hl x (List.mem_of_mem_take hx)
      have hd : ∀ x ∈ l.drop (mcut l.length), P x := fun x hx => hl x (List.mem_of_mem_drop hx)
      by_cases hk : i < mcut l.length
      · rw [mproof_left l i (by omega) hk] at hx
        rcases List.mem_append.1 hx with hx | hx
        · exact mproof_all P hP N _ i (by simp; omega) ht x hx
        · rw [List.mem_singleton.1 hx]; exact hP _ hd
      · rw [mproof_right l i (by omega) hk] at hx
        rcases List.mem_append.1 hx with hx | hx
        · exact mproof_all P hP N _ _ (by simp; omega) hd x hx
        · rw [List.mem_singleton.1 hx]; exact hP _ ht
theorem mproof_len32 (l : List (List UInt8)) (i : Nat) (h : ∀ x ∈ l, x.length = 32) : ∀ x ∈ mproof l i, x.length = 32 :=
  mproof_all (fun x => x.length = 32) (fun l h => mroot_len l h) l.length l i (Nat.le_refl _) h
end Go.Proofs.Ytnjnealphbcamaa
