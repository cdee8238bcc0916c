/- Contracts of package ledgerlineref1: what is written. -/
import Derived.Test.YtdhbaepmbgoobaaCode
namespace Go.Proofs.Ytdhbaepmbgoobaa
open Go.RowKit
set_option linter.unusedVariables false
set_option maxRecDepth 10000
set_option linter.unusedSimpArgs false
set_option linter.unnecessarySimpa false

set_option maxHeartbeats 400000 in
theorem RInt_any (base : Nat) (v : Value) (bs : List UInt8) (n : Int) (w : World) (h : w.ownsRow base 5 1 v bs.length (bvs bs)) (hb : base ≤ w.heap.size) (hm : bs.length ≤ 1000000000) :
    Calls Try.prog 56 #[v, .int .i64 n] w fun e w' => ∃ v', e = .returned v' ∧ Apd base 5 1 w v bs.length (bvs bs) w' v' (bs.length + 8) (bvs (bs ++ le8 n)) := by
  go_enter Try.func56, Try.ntmps56
  go_wp2_with fail
  go_loopw [0, 5] (fun v' i wr => ∃ k : Nat, k ≤ 8 ∧ i = .int .i64 k ∧ Apd base 5 1 w v bs.length (bvs bs) wr v' (bs.length + k) (bvs (bs ++ (List.range k).map (byteAt n)))) (fun _ i _ => 8 - (intOf i).toNat)
  case atStart => exact ⟨0, by omega, rfl, by simpa using Apd.refl h⟩
  case round =>
    obtain ⟨k, hk, rfl, ap⟩ := hrel
    have hs := ap.grown.size
    by_cases hlt : k < 8
    · go_wp2_with (at_builtin; refine wpList_append _ rfl (.tmp 10) (.tmp 18) rfl (run_append_rd _ T8 _ (ap.own.alloc _) (Sl.new wr _ _ 1 1 rfl (by simp [maxLen])) (by intro u hu; simp at hu; subst hu; rfl) (by simp only [maxLen]; omega) (by omega) (by simp; omega)) rfl rfl ?_; intro v' w' ap2)
      go_roundw
      case rel =>
        refine ⟨k + 1, by omega, by go_num, ?_⟩
        rw [range_step, ← List.append_assoc, bvs_append, ← Nat.add_assoc]
        have := Apd.trans (by omega) ap (World.grownBy_alloc _ _ none) ap2 (by omega) (by rw [bvs_append, Nat.mul_one, ← bvs_length, List.take_left])
        simp only [u8v_byteAt] at this
        exact this
      case measure => simp [intOf]; omega
    · have : k = 8 := by omega
      subst this
      go_wp2_with fail
      go_ret
      exact ⟨_, rfl, ap⟩

theorem RText_end {base : Nat} {v v1 v2 : Value} {bs : List UInt8} {s t : ByteArray} {w w1 w2 : World} {x y : Int} (h : w.ownsRow base 5 1 v bs.length (bvs bs))
    (ap1 : Apd base 5 1 (w.alloc (.cells #[.int .u8 x, .int .u8 y] 5)) v bs.length (bvs bs) w1 v1 (bs.length + 2) (bvs bs ++ [.int .u8 x, .int .u8 y]))
    (ap2 : Apd base 5 1 w1 v1 (bs.length + 2) (bvs bs ++ [.int .u8 x, .int .u8 y]) w2 v2 (bs.length + 2 + t.size) (bvs bs ++ [.int .u8 x, .int .u8 y] ++ bvs t.data.toList))
    (ht : t.data.toList = cutText s.data.toList) (hx : Value.int .u8 x = u8v (byte1 t.size)) (hy : Value.int .u8 y = u8v (byte1 (t.size / 256))) :
    Apd base 5 1 w v bs.length (bvs bs) w2 v2 (bs.length + (textBytes s.data.toList).length) (bvs (bs ++ textBytes s.data.toList)) := by
  have e2 : textBytes s.data.toList = [byte1 t.size, byte1 (t.size / 256)] ++ t.data.toList := by rw [textBytes, ← ht]; rfl
  have a1 := Apd.trans (by omega) (Apd.refl h) (World.grownBy_alloc _ _ none) ap1 (by omega) (by rw [Nat.mul_one, ← bvs_length, List.take_length])
  have a2 := Apd.trans (by omega) a1 (World.grownBy.refl _ none) ap2 (by omega) (by rw [Nat.mul_one, ← bvs_length, List.take_left])
  rw [hx, hy] at a2
  rw [e2]
  have e3 : bs.length + ([byte1 t.size, byte1 (t.size / 256)] ++ t.data.toList).length = bs.length + 2 + t.size := by
    simp only [List.length_append, List.length_cons, List.length_nil, str_data]; omega
  rw [e3]
  have e4 : bvs (bs ++ ([byte1 t.size, byte1 (t.size / 256)] ++ t.data.toList)) = bvs bs ++ [u8v (byte1 t.size), u8v (byte1 (t.size / 256))] ++ bvs t.data.toList := by
    rw [bvs_append, bvs_append, ← List.append_assoc]; rfl
  rw [e4]
  exact a2

end Go.Proofs.Ytdhbaepmbgoobaa
