/- Contracts of package code: what is written. -/
import Derived.Test.YtdhbaepmbgoobaaLib
namespace Go.Proofs.Ytdhbaepmbgoobaa
open Go.RowKit
set_option linter.unusedVariables false
set_option maxRecDepth 10000
set_option linter.unusedSimpArgs false
set_option linter.unnecessarySimpa false

/-- The k-th byte of a number, the lowest first. -/
def byteAt (n : Int) (k : Nat) : UInt8 := UInt8.ofNat (IntKind.u64.wrap n / 2 ^ (8 * k) % 256).toNat
theorem u8v_ofNat (x : Int) (h0 : 0 ≤ x) (h1 : x < 256) : u8v (UInt8.ofNat x.toNat) = .int .u8 x := by
  unfold u8v
  rw [UInt8.toNat_ofNat', Nat.mod_eq_of_lt (by omega), Int.toNat_of_nonneg h0]
theorem u8v_byteAt (n : Int) (k : Nat) : Value.int .u8 (IntKind.u64.wrap n / 2 ^ (8 * k) % 256) = u8v (byteAt n k) := by
  unfold byteAt
  rw [u8v_ofNat _ (by omega) (by omega)]
theorem range_step (f : Nat → UInt8) (k : Nat) : (List.range (k + 1)).map f = (List.range k).map f ++ [f k] := by rw [List.range_succ]; simp
def le8 (n : Int) : List UInt8 := (List.range 8).map (byteAt n)

set_option maxHeartbeats 400000 in
theorem Int_any (v : Value) (m : Nat) (bs : List UInt8) (n : Int) (w : World) (h : Sl w w.heap.size 1 v m (bvs bs)) (hm : m ≤ 1000000000) :
    Calls Try.prog 35 #[v, .int .i64 n] w fun e w' => ∃ v', e = .returned v' ∧ w'.ownsRow w.heap.size 5 1 v' (m + 8) (bvs (bs ++ le8 n)) ∧ Below w.heap.size w w' := by
  go_enter Try.func35, Try.ntmps35
  go_wp2_with fail
  refine (Clone_any v m (bvs bs) (bvs_one _) _ h (by omega)).mono ?_
  rintro e w1 ⟨v1, rfl, own1, bel1⟩
  go_wp2_with fail
  go_loopw [5, 9] (fun v i wr => ∃ k : Nat, k ≤ 8 ∧ i = .int .i64 k ∧ wr.ownsRow w.heap.size 5 1 v (m + k) (bvs (bs ++ (List.range k).map (byteAt n))) ∧ Below w.heap.size w wr) (fun _ i _ => 8 - (intOf i).toNat)
  case atStart => exact ⟨0, by omega, rfl, by simpa using own1, bel1⟩
  case round =>
    obtain ⟨k, hk, rfl, hown, hbel⟩ := hrel
    have hs := hbel.size
    by_cases hlt : k < 8
    · go_wp2_with (at_builtin; refine wpList_append _ rfl (.tmp 12) (.tmp 19) rfl (run_append_rd _ T8 _ (hown.alloc _) (Sl.new wr _ _ 1 1 rfl (by simp [maxLen])) (by intro u hu; simp at hu; subst hu; rfl) (by simp only [maxLen]; omega) (by omega) (by simp; omega)) rfl rfl ?_; intro v' w' ap)
      go_roundw
      case rel =>
        refine ⟨k + 1, by omega, by go_num, ?_, ap.below (hbel.alloc hs _) (hown.alloc _) (Nat.le_refl _) (by simp; omega)⟩
        rw [range_step, ← List.append_assoc, bvs_append]
        have := ap.own
        rw [u8v_byteAt] at this
        exact this
      case measure => simp [intOf]; omega
    · have : k = 8 := by omega
      subst this
      go_wp2_with fail
      refine (Clone_any _ _ _ (bvs_one _) _ (Sl.of_own hown) (by omega)).mono ?_
      rintro e w2 ⟨v2, rfl, own2, bel2⟩
      go_wp2_with fail
      go_ret
      exact ⟨v2, rfl, own_more own2 hs, hbel.trans (bel2.mono hs)⟩

/-- The lowest byte of a number. -/
def byte1 (n : Int) : UInt8 := UInt8.ofNat (n % 256).toNat
theorem u8v_byte1 (n : Int) : Value.int .u8 (n % 256) = u8v (byte1 n) := by
  unfold byte1
  rw [u8v_ofNat _ (by omega) (by omega)]

theorem Sl.cast {w : World} {B size n : Nat} {v : Value} {xs ys : List Value} (h : Sl w B size v n xs) (e : xs = ys) : Sl w B size v n ys := e ▸ h
theorem own_cast {w : World} {base : Nat} {e : TypeId} {size n m : Nat} {v : Value} {xs ys : List Value} (h : w.ownsRow base e size v n xs) (hn : n = m) (hx : xs = ys) : w.ownsRow base e size v m ys := hn ▸ hx ▸ h

theorem T8s : SliceTy Try.prog 30 34 (.slice none 0 0) 1 24 := ⟨Try.underlying30, by kernel_rfl, rfl, by omega⟩

/-- The text as it is written: at most 65535 bytes. -/
def cutText (s : List UInt8) : List UInt8 := s.take 65535
def textBytes (s : List UInt8) : List UInt8 := [byte1 (cutText s).length, byte1 ((cutText s).length / 256)] ++ cutText s

end Go.Proofs.Ytdhbaepmbgoobaa
