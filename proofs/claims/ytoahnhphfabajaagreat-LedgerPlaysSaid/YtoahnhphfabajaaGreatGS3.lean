/- A word for each round. -/
import Derived.Test.YtoahnhphfabajaaGreatGE
import Derived.Test.YtoahnhphfabajaaGreatGB
import Derived.IntWalk
namespace Go.Proofs.YtoahnhphfabajaaGreat
set_option maxRecDepth 10000
open Go.RowKit
set_option linter.unusedVariables false
set_option maxRecDepth 10000
set_option linter.unusedSimpArgs false
set_option linter.unnecessarySimpa false

theorem cellL {L : List Nat} {a w : World} (h : Turns L a w) {p : Addr} {v : Value} (hc : a.cell? p = some v) (hp : p.block ∉ L) : w.cell? p = some v :=
  (World.cell?_of_block (h.block p.block (World.block_lt_of_cell? a p hc) hp)).trans hc
theorem w_nat (n : Nat) (h : n < 4294967296) : ((UInt32.ofNat n).toNat : Int) = (n : Int) := by
  rw [UInt32.toNat_ofNat', Nat.mod_eq_of_lt h]
theorem or_w (m n : Nat) (i : Nat) (hm : m % 2 ^ i = 0) (hn : n < 2 ^ i) (hs : m + n < 4294967296) : bits .or .u32 (m : Int) (n : Int) = ((m + n : Nat) : Int) := by
  have h1 : m < 4294967296 := by omega
  have h2 : n < 4294967296 := by omega
  rw [← w_nat m h1, ← w_nat n h2, bitsOr, UInt32.toNat_or, UInt32.toNat_ofNat', UInt32.toNat_ofNat', Nat.mod_eq_of_lt h1, Nat.mod_eq_of_lt h2]
  congr 1
  have := Nat.two_pow_add_eq_or_of_lt hn (m / 2 ^ i)
  rw [Nat.mul_div_cancel' (Nat.dvd_of_mod_eq_zero hm)] at this
  exact this.symm
theorem word_or (b : List UInt8) (k : Nat) : bits .or .u32 (bits .or .u32 (bits .or .u32 (((b.getD (4 * k) 0).toNat : Int) * 16777216) (((b.getD (4 * k + 1) 0).toNat : Int) * 65536)) (((b.getD (4 * k + 2) 0).toNat : Int) * 256)) ((b.getD (4 * k + 3) 0).toNat : Int) = ((word32 b k).toNat : Int) := by
  unfold word32
  generalize b.getD (4 * k) 0 = x0
  generalize b.getD (4 * k + 1) 0 = x1
  generalize b.getD (4 * k + 2) 0 = x2
  generalize b.getD (4 * k + 3) 0 = x3
  have h0 := x0.toNat_lt
  have h1 := x1.toNat_lt
  have h2 := x2.toNat_lt
  have h3 := x3.toNat_lt
  have e0 : ((x0.toNat : Int) * 16777216) = ((x0.toNat * 16777216 : Nat) : Int) := by omega
  have e1 : ((x1.toNat : Int) * 65536) = ((x1.toNat * 65536 : Nat) : Int) := by omega
  have e2 : ((x2.toNat : Int) * 256) = ((x2.toNat * 256 : Nat) : Int) := by omega
  have o1 := or_w (x0.toNat * 16777216) (x1.toNat * 65536) 24 (by omega) (by omega) (by omega)
  have o2 := or_w (x0.toNat * 16777216 + x1.toNat * 65536) (x2.toNat * 256) 16 (by omega) (by omega) (by omega)
  have o3 := or_w (x0.toNat * 16777216 + x1.toNat * 65536 + x2.toNat * 256) x3.toNat 8 (by omega) (by omega) (by omega)
  rw [e0, e1, e2, o1, o2, o3, w_nat _ (by omega)]
theorem byte_at {w : World} {B n c : Nat} {A : Option Addr} {b : List UInt8} (h : Sl w B 1 (.slice A n c) n (bvs b)) (j : Nat) (hj : j < n) :
    ∃ bb ob, A = some ⟨bb, ob, none⟩ ∧ bb < B ∧ ∀ j, j < n → w.cell? ⟨bb, ob + j, none⟩ = some (.int .u8 ((b.getD j 0).toNat : Int)) := by
  have hl := h.1
  rw [bvs_length, Nat.mul_one] at hl
  obtain ⟨_, _, _, ee, _, _, _, hrd⟩ := h
  injection ee with e1 _ _
  subst e1
  obtain ⟨bb, ob, e, hb, hc⟩ := hrd (by intro e; have h0 := congrArg List.length e; rw [bvs_length, List.length_nil] at h0; omega)
  refine ⟨bb, ob, e, hb, fun j hj => ?_⟩
  have hjb : j < b.length := by omega
  rw [hc j (u8v b[j]) (by simp [bvs, List.getElem?_eq_getElem hjb])]
  rw [List.getD_eq_getElem?_getD, List.getElem?_eq_getElem hjb]; rfl
theorem u32s_get (l : List UInt32) (j : Nat) (h : j < l.length) : (u32s l)[j]? = some (.int .u32 ((l.getD j 0).toNat : Int)) := by
  rw [List.getD_eq_getElem?_getD, List.getElem?_eq_getElem h]
  simp [u32s, List.getElem?_eq_getElem h, u32v]
theorem u32s_set (l : List UInt32) (k : Nat) (x : UInt32) : (u32s l).set k (.int .u32 (x.toNat : Int)) = u32s (l.set k x) := by unfold u32s; rw [List.map_set]; rfl
theorem spread_any_eq (b : List UInt8) : spread b = spreadTo b 64 (zerosW 64) := rfl

set_option maxRecDepth 100000 in
set_option maxHeartbeats 4000000 in
theorem spreadF_any (A : Option Addr) (n c : Nat) (b : List UInt8) (B : Nat) (w : World) (h : Sl w B 1 (.slice A n c) n (bvs b)) (hB : B ≤ w.heap.size) (hn : 64 ≤ n) :
    Calls Tryz.prog 115 #[.slice A n c] w fun e w' => e = .returned (.agg (u32s (spread b)).toArray) ∧ Turns [] w w' := by
  obtain ⟨bb, ob, rfl, hbb, hby⟩ := byte_at h 0 (by omega)
  have hz := zero_w64
  obtain ⟨X0, hX0⟩ : ∃ X0, X0 = (w.alloc (.cells (u32s (zerosW 64)).toArray 165)).alloc (.cells (u32s (zerosW 64)).toArray 165) := ⟨_, rfl⟩
  have t0 := ((Turns.refl [] w).alloc (.cells (u32s (zerosW 64)).toArray 165)).alloc (.cells (u32s (zerosW 64)).toArray 165)
  have b2 := (Blk.new w (u32s (zerosW 64)) 165).alloc (.cells (u32s (zerosW 64)).toArray 165)
  have b3 := Blk.new (w.alloc (.cells (u32s (zerosW 64)).toArray 165)) (u32s (zerosW 64)) 165
  rw [← hX0] at t0 b2 b3
  have hsz : (w.alloc (.cells (u32s (zerosW 64)).toArray 165)).heap.size = w.heap.size + 1 := by simp
  rw [hsz] at b3
  have hby := fun j hj => cellL t0 (hby j hj) (by simp)
  obtain ⟨p2, hp2⟩ : ∃ p2, p2 = w.heap.size := ⟨_, rfl⟩
  rw [← hp2] at b2 b3
  have hp23 : bb ≠ p2 + 1 := by omega
  have HX := Lib.hid hX0
  have HP := Lib.hid hp2
  have hcn : n ≤ 9223372036854775807 := by
    obtain ⟨_, _, _, ee, h1, h2, _⟩ := h
    injection ee with _ _ e3
    subst e3
    unfold maxLen at h2
    omega
  clear hX0 hsz hp2 h
  generalize hzz : (u32s (zerosW 64)).toArray = zz at hz HX
  clear hzz
  go_enter Tryz.func115, Tryz.ntmps115
  go_wp2_with (first
    | (refine wpList_alloc_arr rfl 165 rfl zz hz ?_)
    | fail)
  obtain ⟨p3, hp3⟩ : ∃ p3, p3 = p2 + 1 := ⟨_, rfl⟩
  rw [← hp3] at b3 hp23
  have hpp : p2 ≠ p3 := by omega
  rw [← HX.out, ← HP.out, ← hp3]
  have HP3 := Lib.hid hp3
  clear hp3
  go_loopw [8] (fun i wr => ∃ k : Nat, k ≤ 16 ∧ i = .int .i64 k ∧ Blk wr p3 (u32s (spreadTo b k (zerosW 64))) 165 ∧ Turns [p3] X0 wr) (fun i _ => 16 - (intOf i).toNat)
  case atStart => exact ⟨0, by omega, rfl, b3, Turns.refl _ _⟩
  case round =>
    obtain ⟨k, hk, rfl, v3, td⟩ := hrel
    by_cases hlt : k < 16
    · have q0 := hby (4 * k) (by omega)
      have q1 := hby (4 * k + 1) (by omega)
      have q2 := hby (4 * k + 2) (by omega)
      have q3 := hby (4 * k + 3) (by omega)
      have hki : (k : Int) < 16 := by omega
      have hk64 : (k : Int) < 64 := by omega
      have hni : (64 : Int) ≤ (n : Int) := by omega
      have hbp : bb ≠ p3 := hp23
      have hS0 := td.drew
      have c3 := v3.cell k
      have f3 := v3.free k
      have hlen : (u32s (spreadTo b k (zerosW 64))).length = 64 := by rw [u32s_length, spreadTo_len]; simp [zerosW]
      rw [List.getElem?_eq_getElem (by omega)] at c3
      generalize (u32s (spreadTo b k (zerosW 64)))[k] = old at c3
      have b0 := (b.getD (4 * k) 0).toNat_lt
      have b1 := (b.getD (4 * k + 1) 0).toNat_lt
      have b2' := (b.getD (4 * k + 2) 0).toNat_lt
      have b3' := (b.getD (4 * k + 3) 0).toNat_lt
      have HW := Lib.hid (word_or b k)
      have HV := Lib.hid (And.intro v3 (And.intro td hlen))
      generalize (b.getD (4 * k) 0).toNat = y0 at q0 b0 HW
      have x0 : (y0 : Int) ≤ 255 := by omega
      generalize (b.getD (4 * k + 1) 0).toNat = y1 at q1 b1 HW
      have x1 : (y1 : Int) ≤ 255 := by omega
      generalize (b.getD (4 * k + 2) 0).toNat = y2 at q2 b2' HW
      have x2 : (y2 : Int) ≤ 255 := by omega
      generalize (b.getD (4 * k + 3) 0).toNat = y3 at q3 b3' HW
      have x3 : (y3 : Int) ≤ 255 := by omega
      have ha0 : 0 ≤ 4 * (k : Int) := by omega
      have ha0' : 4 * (k : Int) < (n : Int) := by omega
      have ha1 : 0 ≤ 4 * (k : Int) + 1 := by omega
      have ha1' : 4 * (k : Int) + 1 < (n : Int) := by omega
      have ha2 : 0 ≤ 4 * (k : Int) + 2 := by omega
      have ha2' : 4 * (k : Int) + 2 < (n : Int) := by omega
      have ha3 : 0 ≤ 4 * (k : Int) + 3 := by omega
      have ha3' : 4 * (k : Int) + 3 < (n : Int) := by omega
      have e0 : (4 * (k : Int)).toNat = 4 * k := by omega
      have e1 : (4 * (k : Int) + 1).toNat = 4 * k + 1 := by omega
      have e2 : (4 * (k : Int) + 2).toNat = 4 * k + 2 := by omega
      have e3 : (4 * (k : Int) + 3).toNat = 4 * k + 3 := by omega
      have w0 : IntKind.i64.wrap (4 * (k : Int)) = 4 * (k : Int) := IntWalk.i64_in _ (by omega)
      have w1 : IntKind.i64.wrap (4 * (k : Int) + 1) = 4 * (k : Int) + 1 := IntWalk.i64_in _ (by omega)
      have w2 : IntKind.i64.wrap (4 * (k : Int) + 2) = 4 * (k : Int) + 2 := IntWalk.i64_in _ (by omega)
      have w3 : IntKind.i64.wrap (4 * (k : Int) + 3) = 4 * (k : Int) + 3 := IntWalk.i64_in _ (by omega)
      have u0 : IntKind.u32.wrap (y0 : Int) = (y0 : Int) := by rw [IntKind.wrap_u32]; omega
      have u0' : IntKind.u32.wrap ((y0 : Int) * 16777216) = (y0 : Int) * 16777216 := by rw [IntKind.wrap_u32]; omega
      have u1 : IntKind.u32.wrap (y1 : Int) = (y1 : Int) := by rw [IntKind.wrap_u32]; omega
      have u1' : IntKind.u32.wrap ((y1 : Int) * 65536) = (y1 : Int) * 65536 := by rw [IntKind.wrap_u32]; omega
      have u2 : IntKind.u32.wrap (y2 : Int) = (y2 : Int) := by rw [IntKind.wrap_u32]; omega
      have u2' : IntKind.u32.wrap ((y2 : Int) * 256) = (y2 : Int) * 256 := by rw [IntKind.wrap_u32]; omega
      have u3 : IntKind.u32.wrap (y3 : Int) = (y3 : Int) := by rw [IntKind.wrap_u32]; omega
      clear hby v3 td b3 b2 t0 hlen
      go_upto_region 5 with fail
      refine rk0 (fun W => Turns [p3] X0 W) (fun _ => True) 36 36 ?_
      refine rkA 0 11 1 (v := ?_) ?_ (.mk' hS0 trivial) ?_
      rotate_left
      · intro W hS; go_simp; all_goals with_reducible rfl
      try simp only [sI, sS, sZ]
      refine rkA 1 12 3 (v := ?_) ?_ (.mk' hS0 trivial) ?_
      rotate_left
      · intro W hS; go_simp; all_goals with_reducible rfl
      try simp only [sI, sS, sZ]
      refine rkA 2 13 7 (v := ?_) ?_ (.mk' hS0 trivial) ?_
      rotate_left
      · intro W hS; go_simp; all_goals with_reducible rfl
      try simp only [sI, sS, sZ]
      refine rkA 3 14 15 (v := ?_) ?_ (.mk' hS0 trivial) ?_
      rotate_left
      · intro W hS; go_simp; all_goals with_reducible rfl
      try simp only [sI, sS, sZ]
      refine rkA 4 15 31 (v := ?_) ?_ (.mk' hS0 trivial) ?_
      rotate_left
      · intro W hS; go_simp; all_goals with_reducible rfl
      try simp only [sI, sS, sZ]
      refine rkA 5 16 63 (v := ?_) ?_ (.mk' hS0 trivial) ?_
      rotate_left
      · intro W hS; have c2 := cellL hS q0 (by simpa using hbp); go_simp; all_goals with_reducible rfl
      try simp only [sI, sS, sZ]
      refine rkA 6 17 127 (v := ?_) ?_ (.mk' hS0 trivial) ?_
      rotate_left
      · intro W hS; go_simp; all_goals with_reducible rfl
      try simp only [sI, sS, sZ]
      refine rkA 7 18 255 (v := ?_) ?_ (.mk' hS0 trivial) ?_
      rotate_left
      · intro W hS; go_simp; all_goals with_reducible rfl
      try simp only [sI, sS, sZ]
      refine rkA 8 19 511 (v := ?_) ?_ (.mk' hS0 trivial) ?_
      rotate_left
      · intro W hS; go_simp; all_goals with_reducible rfl
      try simp only [sI, sS, sZ]
      refine rkA 9 20 1023 (v := ?_) ?_ (.mk' hS0 trivial) ?_
      rotate_left
      · intro W hS; go_simp; all_goals with_reducible rfl
      try simp only [sI, sS, sZ]
      refine rkA 10 21 2047 (v := ?_) ?_ (.mk' hS0 trivial) ?_
      rotate_left
      · intro W hS; go_simp; all_goals with_reducible rfl
      try simp only [sI, sS, sZ]
      refine rkA 11 22 4095 (v := ?_) ?_ (.mk' hS0 trivial) ?_
      rotate_left
      · intro W hS; go_simp; all_goals with_reducible rfl
      try simp only [sI, sS, sZ]
      refine rkA 12 23 8191 (v := ?_) ?_ (.mk' hS0 trivial) ?_
      rotate_left
      · intro W hS; go_simp; all_goals with_reducible rfl
      try simp only [sI, sS, sZ]
      refine rkA 13 24 16383 (v := ?_) ?_ (.mk' hS0 trivial) ?_
      rotate_left
      · intro W hS; have c2 := cellL hS q1 (by simpa using hbp); go_simp; all_goals with_reducible rfl
      try simp only [sI, sS, sZ]
      refine rkA 14 25 32767 (v := ?_) ?_ (.mk' hS0 trivial) ?_
      rotate_left
      · intro W hS; go_simp; all_goals with_reducible rfl
      try simp only [sI, sS, sZ]
      refine rkA 15 26 65535 (v := ?_) ?_ (.mk' hS0 trivial) ?_
      rotate_left
      · intro W hS; go_simp; all_goals with_reducible rfl
      try simp only [sI, sS, sZ]
      refine rkA 16 27 131071 (v := ?_) ?_ (.mk' hS0 trivial) ?_
      rotate_left
      · intro W hS; go_simp; all_goals with_reducible rfl
      try simp only [sI, sS, sZ]
      refine rkA 17 28 262143 (v := ?_) ?_ (.mk' hS0 trivial) ?_
      rotate_left
      · intro W hS; go_simp; all_goals with_reducible rfl
      try simp only [sI, sS, sZ]
      refine rkA 18 29 524287 (v := ?_) ?_ (.mk' hS0 trivial) ?_
      rotate_left
      · intro W hS; go_simp; all_goals with_reducible rfl
      try simp only [sI, sS, sZ]
      refine rkA 19 30 1048575 (v := ?_) ?_ (.mk' hS0 trivial) ?_
      rotate_left
      · intro W hS; go_simp; all_goals with_reducible rfl
      try simp only [sI, sS, sZ]
      refine rkA 20 31 2097151 (v := ?_) ?_ (.mk' hS0 trivial) ?_
      rotate_left
      · intro W hS; go_simp; all_goals with_reducible rfl
      try simp only [sI, sS, sZ]
      refine rkA 21 32 4194303 (v := ?_) ?_ (.mk' hS0 trivial) ?_
      rotate_left
      · intro W hS; go_simp; all_goals with_reducible rfl
      try simp only [sI, sS, sZ]
      refine rkA 22 33 8388607 (v := ?_) ?_ (.mk' hS0 trivial) ?_
      rotate_left
      · intro W hS; have c2 := cellL hS q2 (by simpa using hbp); go_simp; all_goals with_reducible rfl
      try simp only [sI, sS, sZ]
      refine rkA 23 34 16777215 (v := ?_) ?_ (.mk' hS0 trivial) ?_
      rotate_left
      · intro W hS; go_simp; all_goals with_reducible rfl
      try simp only [sI, sS, sZ]
      refine rkA 24 35 33554431 (v := ?_) ?_ (.mk' hS0 trivial) ?_
      rotate_left
      · intro W hS; go_simp; all_goals with_reducible rfl
      try simp only [sI, sS, sZ]
      refine rkA 25 36 67108863 (v := ?_) ?_ (.mk' hS0 trivial) ?_
      rotate_left
      · intro W hS; go_simp; all_goals with_reducible rfl
      try simp only [sI, sS, sZ]
      refine rkA 26 37 134217727 (v := ?_) ?_ (.mk' hS0 trivial) ?_
      rotate_left
      · intro W hS; go_simp; all_goals with_reducible rfl
      try simp only [sI, sS, sZ]
      refine rkA 27 38 268435455 (v := ?_) ?_ (.mk' hS0 trivial) ?_
      rotate_left
      · intro W hS; go_simp; all_goals with_reducible rfl
      try simp only [sI, sS, sZ]
      refine rkA 28 39 536870911 (v := ?_) ?_ (.mk' hS0 trivial) ?_
      rotate_left
      · intro W hS; go_simp; all_goals with_reducible rfl
      try simp only [sI, sS, sZ]
      refine rkA 29 40 1073741823 (v := ?_) ?_ (.mk' hS0 trivial) ?_
      rotate_left
      · intro W hS; go_simp; all_goals with_reducible rfl
      try simp only [sI, sS, sZ]
      refine rkA 30 41 2147483647 (v := ?_) ?_ (.mk' hS0 trivial) ?_
      rotate_left
      · intro W hS; go_simp; all_goals with_reducible rfl
      try simp only [sI, sS, sZ]
      refine rkA 31 42 4294967295 (v := ?_) ?_ (.mk' hS0 trivial) ?_
      rotate_left
      · intro W hS; have c2 := cellL hS q3 (by simpa using hbp); go_simp; all_goals with_reducible rfl
      try simp only [sI, sS, sZ]
      refine rkA 32 43 8589934591 (v := ?_) ?_ (.mk' hS0 trivial) ?_
      rotate_left
      · intro W hS; go_simp; all_goals with_reducible rfl
      try simp only [sI, sS, sZ]
      refine rkA 33 44 17179869183 (v := ?_) ?_ (.mk' hS0 trivial) ?_
      rotate_left
      · intro W hS; go_simp; all_goals with_reducible rfl
      try simp only [sI, sS, sZ]
      refine rkA 34 45 34359738367 (v := ?_) ?_ (.mk' hS0 trivial) ?_
      rotate_left
      · intro W hS; go_simp; all_goals with_reducible rfl
      try simp only [sI, sS, sZ]
      refine rk1 35 68719476735 (fun K hK => ?_)
      go_simp
      rw [HW.out]
      have hS1 := hS0.setCell (p := ⟨p3, k, none⟩) (.inl (by simp)) (.int .u32 ((word32 b k).toNat : Int))
      refine hK _ _ (.mk' hS1 trivial) ?_
      clear hK K
      try simp only [sI, sS, sZ]
      refine rkZ ?_
      obtain ⟨v3, td, hlen⟩ := HV.out
      have v3z := (v3.set k (.int .u32 ((word32 b k).toNat : Int))).drew
      rw [u32s_set] at v3z
      have hst : spreadTo b (k + 1) (zerosW 64) = (spreadTo b k (zerosW 64)).set k (word32 b k) := by rw [spreadTo, if_pos hlt]
      rw [← hst] at v3z
      have tdz := (td.setCell (p := ⟨p3, k, none⟩) (.inl (by simp)) (.int .u32 ((word32 b k).toNat : Int))).drew
      have HF := Lib.hid (And.intro v3z tdz)
      clear v3 td v3z tdz hst hlen hS0 c3 f3 q0 q1 q2 q3
      go_wp2_with fail
      go_roundw
      case rel => exact ⟨k + 1, by omega, by go_num, HF.out.1, HF.out.2⟩
      case measure => (simp [intOf] <;> omega)
    · obtain rfl : k = 16 := by omega
      have HV := Lib.hid (And.intro v3 td)
      have z16 : ¬ ((16 : Nat) : Int) < 16 := by omega
      clear v3 td b3
      go_wp2_with fail
      go_loopw [5] (fun i wr => ∃ k : Nat, 16 ≤ k ∧ k ≤ 64 ∧ i = .int .i64 k ∧ Blk wr p3 (u32s (spreadTo b k (zerosW 64))) 165 ∧ Turns [p3] X0 wr) (fun i _ => 64 - (intOf i).toNat)
      case atStart => exact ⟨16, by omega, by omega, rfl, HV.out.1, HV.out.2⟩
      case round =>
        clear HV hby
        obtain ⟨k, hk1, hk2, rfl, v3, td⟩ := hrel
        by_cases hlt : k < 64
        · have hlen : (spreadTo b k (zerosW 64)).length = 64 := by rw [spreadTo_len]; simp [zerosW]
          have hst : spreadTo b (k + 1) (zerosW 64) = (spreadTo b k (zerosW 64)).set k (mix32 (spreadTo b k (zerosW 64)) k) := by rw [spreadTo, if_neg (by omega)]
          generalize spreadTo b k (zerosW 64) = l at v3 hlen hst
          have c15 := v3.cell (k - 15)
          have c2k := v3.cell (k - 2)
          have c16 := v3.cell (k - 16)
          have c7 := v3.cell (k - 7)
          have ck := v3.cell k
          have fk := v3.free k
          rw [u32s_get l _ (by omega)] at c15 c2k c16 c7 ck
          obtain ⟨x, hx⟩ : ∃ x, x = l.getD (k - 15) 0 := ⟨_, rfl⟩
          obtain ⟨y, hy⟩ : ∃ y, y = l.getD (k - 2) 0 := ⟨_, rfl⟩
          obtain ⟨u, hu⟩ : ∃ u, u = l.getD (k - 16) 0 := ⟨_, rfl⟩
          obtain ⟨v, hv⟩ : ∃ v, v = l.getD (k - 7) 0 := ⟨_, rfl⟩
          rw [← hx] at c15
          rw [← hy] at c2k
          rw [← hu] at c16
          rw [← hv] at c7
          have hmix : mix32 l k = u + (ror x 7 ^^^ ror x 18 ^^^ shr32 x 3) + v + (ror y 17 ^^^ ror y 19 ^^^ shr32 y 10) := by unfold mix32; rw [← hx, ← hy, ← hu, ← hv]
          have HS := Lib.hid hst
          have HM := Lib.hid hmix
          have HV := Lib.hid (And.intro v3 td)
          have hki : (k : Int) < 64 := by omega
          have hk16 : 16 ≤ (k : Int) := by omega
          have e15 : ((k : Int) - 15).toNat = k - 15 := by omega
          have e2 : ((k : Int) - 2).toNat = k - 2 := by omega
          have e16 : ((k : Int) - 16).toNat = k - 16 := by omega
          have e7 : ((k : Int) - 7).toNat = k - 7 := by omega
          have w15 : IntKind.i64.wrap ((k : Int) - 15) = (k : Int) - 15 := IntWalk.i64_in _ (by omega)
          have w2 : IntKind.i64.wrap ((k : Int) - 2) = (k : Int) - 2 := IntWalk.i64_in _ (by omega)
          have w16 : IntKind.i64.wrap ((k : Int) - 16) = (k : Int) - 16 := IntWalk.i64_in _ (by omega)
          have w7 : IntKind.i64.wrap ((k : Int) - 7) = (k : Int) - 7 := IntWalk.i64_in _ (by omega)
          have p15 : 15 ≤ (k : Int) := by omega
          have p2' : 2 ≤ (k : Int) := by omega
          have p7 : 7 ≤ (k : Int) := by omega
          have q15 : (k : Int) - 15 < 64 := by omega
          have q2 : (k : Int) - 2 < 64 := by omega
          have q16 : (k : Int) - 16 < 64 := by omega
          have q7 : (k : Int) - 7 < 64 := by omega
          have HS3 := Lib.hid (show ∀ x : UInt32, (x.toNat : Int) / 8 = ((shr32 x 3).toNat : Int) from fun x => shrW x 3)
          have HS10 := Lib.hid (show ∀ x : UInt32, (x.toNat : Int) / 1024 = ((shr32 x 10).toNat : Int) from fun x => shrW x 10)
          have hT : Turns [] wr wr.drew := (Turns.refl _ _).drew
          clear hx hy hu hv hst hmix v3 td hlen
          go_upto_region 10 with fail
          refine rk0 (fun W => Turns [] wr W) (fun _ => True) 10 10 ?_
          refine rkA 0 51 1 (v := ?_) ?_ (.mk' hT trivial) ?_
          rotate_left
          · intro W hS; go_simp; all_goals with_reducible rfl
          try simp only [sI, sS, sZ]
          refine rkA 1 52 3 (v := ?_) ?_ (.mk' hT trivial) ?_
          rotate_left
          · intro W hS; go_simp; all_goals with_reducible rfl
          try simp only [sI, sS, sZ]
          refine rkA 2 53 7 (v := ?_) ?_ (.mk' hT trivial) ?_
          rotate_left
          · intro W hS; go_simp; all_goals with_reducible rfl
          try simp only [sI, sS, sZ]
          refine rkA 3 54 15 (v := ?_) ?_ (.mk' hT trivial) ?_
          rotate_left
          · intro W hS; have c2 := cellL hS c15 (by simp); go_simp; all_goals with_reducible rfl
          try simp only [sI, sS, sZ]
          refine rkA 4 55 31 (v := ?_) ?_ (.mk' hT trivial) ?_
          rotate_left
          · intro W hS; go_simp; all_goals with_reducible rfl
          try simp only [sI, sS, sZ]
          refine rkA 5 56 63 (v := ?_) ?_ (.mk' hT trivial) ?_
          rotate_left
          · intro W hS; go_simp; all_goals with_reducible rfl
          try simp only [sI, sS, sZ]
          refine rkA 6 57 127 (v := ?_) ?_ (.mk' hT trivial) ?_
          rotate_left
          · intro W hS; go_simp; all_goals with_reducible rfl
          try simp only [sI, sS, sZ]
          refine rkA 7 58 255 (v := ?_) ?_ (.mk' hT trivial) ?_
          rotate_left
          · intro W hS; have c2 := cellL hS c2k (by simp); go_simp; all_goals with_reducible rfl
          try simp only [sI, sS, sZ]
          refine rkA 8 6 511 (v := ?_) ?_ (.mk' hT trivial) ?_
          rotate_left
          · intro W hS; go_simp; all_goals with_reducible rfl
          try simp only [sI, sS, sZ]
          refine rkA 9 7 1023 (v := ?_) ?_ (.mk' hT trivial) ?_
          rotate_left
          · intro W hS; go_simp; all_goals with_reducible rfl
          try simp only [sI, sS, sZ]
          refine rkZ ?_
          have hT : Turns [] wr wr.drew.drew := ((Turns.refl _ _).drew).drew
          go_wp2_with fail
          refine rk0 (fun _ => True) (fun W => Turns [] wr W) 29 30 ?_
          refine rkA 0 59 1 (v := ?_) ?_ (.mk' trivial hT) ?_
          rotate_left
          · intro W hS; go_simp; all_goals with_reducible rfl
          try simp only [sI, sS, sZ]
          refine rkA 1 60 3 (v := ?_) ?_ (.mk' trivial hT) ?_
          rotate_left
          · intro W hS; go_simp; all_goals with_reducible rfl
          try simp only [sI, sS, sZ]
          refine rkA 2 61 7 (v := ?_) ?_ (.mk' trivial hT) ?_
          rotate_left
          · intro W hS; go_simp; all_goals with_reducible rfl
          try simp only [sI, sS, sZ]
          refine rkA 3 62 15 (v := ?_) ?_ (.mk' trivial hT) ?_
          rotate_left
          · intro W hS; go_simp; all_goals with_reducible rfl
          try simp only [sI, sS, sZ]
          refine rkT 4 63 31 (v := ?_) ?_ (.mk' trivial hT) ?_
          rotate_left
          · rintro W ⟨-, hS⟩; have c2 := cellL hS c16 (by simp); go_simp; all_goals with_reducible rfl
          try simp only [sI, sS, sZ]
          refine rkA 5 64 63 (v := ?_) ?_ (.mk' trivial hT) ?_
          rotate_left
          · intro W hS; go_simp; all_goals with_reducible rfl
          try simp only [sI, sS, sZ]
          refine rkA 7 66 191 (v := ?_) ?_ (.mk' trivial hT) ?_
          rotate_left
          · intro W hS; go_simp; all_goals with_reducible rfl
          try simp only [sI, sS, sZ]
          refine rkA 10 69 1215 (v := ?_) ?_ (.mk' trivial hT) ?_
          rotate_left
          · intro W hS; go_simp; all_goals with_reducible rfl
          try simp only [sI, sS, sZ]
          refine rkA 11 70 3263 (v := ?_) ?_ (.mk' trivial hT) ?_
          rotate_left
          · intro W hS; go_simp; all_goals with_reducible rfl
          try simp only [sI, sS, sZ]
          refine rkA 14 73 19647 (v := ?_) ?_ (.mk' trivial hT) ?_
          rotate_left
          · intro W hS; go_simp; all_goals with_reducible rfl
          try simp only [sI, sS, sZ]
          refine rkA 15 74 52415 (v := ?_) ?_ (.mk' trivial hT) ?_
          rotate_left
          · intro W hS; go_simp; all_goals with_reducible rfl
          try simp only [sI, sS, sZ]
          refine rkA 16 75 117951 (v := ?_) ?_ (.mk' trivial hT) ?_
          rotate_left
          · intro W hS; go_simp; all_goals with_reducible rfl
          try simp only [sI, sS, sZ]
          refine rkT 17 76 249023 (v := ?_) ?_ (.mk' trivial hT) ?_
          rotate_left
          · rintro W ⟨-, hS⟩; have c2 := cellL hS c7 (by simp); go_simp; all_goals with_reducible rfl
          try simp only [sI, sS, sZ]
          refine rkA 19 78 773311 (v := ?_) ?_ (.mk' trivial hT) ?_
          rotate_left
          · intro W hS; go_simp; all_goals with_reducible rfl
          try simp only [sI, sS, sZ]
          refine rkA 21 80 2870463 (v := ?_) ?_ (.mk' trivial hT) ?_
          rotate_left
          · intro W hS; go_simp; all_goals with_reducible rfl
          try simp only [sI, sS, sZ]
          refine rkA 24 83 19647679 (v := ?_) ?_ (.mk' trivial hT) ?_
          rotate_left
          · intro W hS; go_simp; all_goals with_reducible rfl
          try simp only [sI, sS, sZ]
          refine rkA 25 84 53202111 (v := ?_) ?_ (.mk' trivial hT) ?_
          rotate_left
          · intro W hS; go_simp; all_goals with_reducible rfl
          try simp only [sI, sS, sZ]
          refine rk1 6 53202175 (fun K hK => ?_)
          go_simp
          refine (right_7 x _).mono ?_
          rintro e ww ⟨rfl, rfl⟩
          refine hK _ _ (.mk' trivial hT) ?_
          clear hK K
          try simp only [sI, sS, sZ]
          refine rk1 8 53202431 (fun K hK => ?_)
          go_simp
          refine (right_18 x _).mono ?_
          rintro e ww ⟨rfl, rfl⟩
          refine hK _ _ (.mk' trivial hT) ?_
          clear hK K
          try simp only [sI, sS, sZ]
          refine rkA 9 68 53202943 (v := ?_) ?_ (.mk' trivial hT) ?_
          rotate_left
          · intro W hS; go_simp; all_goals with_reducible rfl
          try simp only [sI, sS, sZ]
          refine rkA 12 71 53207039 (v := ?_) ?_ (.mk' trivial hT) ?_
          rotate_left
          · intro W hS; go_simp; all_goals with_reducible rfl
          try simp only [sI, sS, sZ]
          refine rkA 13 72 53215231 (v := ?_) ?_ (.mk' trivial hT) ?_
          rotate_left
          · intro W hS; go_simp; all_goals with_reducible rfl
          try simp only [sI, sS, sZ]
          refine rkA 18 77 53477375 (v := ?_) ?_ (.mk' trivial hT) ?_
          rotate_left
          · intro W hS; go_simp; all_goals with_reducible rfl
          try simp only [sI, sS, sZ]
          refine rk1 20 54525951 (fun K hK => ?_)
          go_simp
          refine (right_17 y _).mono ?_
          rintro e ww ⟨rfl, rfl⟩
          refine hK _ _ (.mk' trivial hT) ?_
          clear hK K
          try simp only [sI, sS, sZ]
          refine rk1 22 58720255 (fun K hK => ?_)
          go_simp
          refine (right_19 y _).mono ?_
          rintro e ww ⟨rfl, rfl⟩
          refine hK _ _ (.mk' trivial hT) ?_
          clear hK K
          try simp only [sI, sS, sZ]
          refine rkA 23 82 67108863 (v := ?_) ?_ (.mk' trivial hT) ?_
          rotate_left
          · intro W hS; go_simp; all_goals with_reducible rfl
          try simp only [sI, sS, sZ]
          refine rkA 26 85 134217727 (v := ?_) ?_ (.mk' trivial hT) ?_
          rotate_left
          · intro W hS; go_simp; all_goals with_reducible rfl
          try simp only [sI, sS, sZ]
          refine rkA 27 86 268435455 (v := ?_) ?_ (.mk' trivial hT) ?_
          rotate_left
          · intro W hS; go_simp; all_goals with_reducible rfl
          try simp only [sI, sS, sZ]
          refine rkA 28 87 536870911 (v := ?_) ?_ (.mk' trivial hT) ?_
          rotate_left
          · intro W hS; go_simp; all_goals with_reducible rfl
          try simp only [sI, sS, sZ]
          refine rk1 29 1073741823 (fun K hK => ?_)
          go_simp
          refine hK _ _ (.p trivial) ?_
          clear hK K
          try simp only [sI, sS, sZ]
          refine rkZ ?_
          obtain ⟨v3, td⟩ := HV.out
          have v3z := ((v3.set k (.int .u32 ((mix32 l k).toNat : Int))).drew).drew
          rw [u32s_set, ← HS.out] at v3z
          have tdz := ((td.setCell (p := ⟨p3, k, none⟩) (.inl (by simp)) (.int .u32 ((mix32 l k).toNat : Int))).drew).drew
          have HF := Lib.hid (And.intro v3z tdz)
          clear v3 td v3z tdz hT c15 c2k c16 c7 ck fk
          simp only [bitsXor, wrapAdd, HS3.out, HS10.out]
          rw [← HM.out]
          go_wp2_with fail
          go_roundw
          case rel => exact ⟨k + 1, by omega, by omega, by go_num, HF.out.1, HF.out.2⟩
          case measure => (simp [intOf] <;> omega)
        · obtain rfl : k = 64 := by omega
          have z64 : ¬ ((64 : Nat) : Int) < 64 := by omega
          rw [← spread_any_eq b] at v3
          have b2w := b2.turns td (by simpa using hpp)
          have HV := Lib.hid (And.intro v3 (And.intro td b2w))
          clear v3 td b2 b2w
          go_upto_region 12 with fail
          have hsp : (u32s (spread b)).length = 64 := by rw [u32s_length]; unfold spread; rw [spreadTo_len]; simp [zero64]
          have hs1 := u32s_one (spread b)
          have hsz : (Tryz.prog.info? 165).map (·.size) = some (u32s (spread b)).length := by rw [size_w64, hsp]
          generalize hspe : u32s (spread b) = sp at HV hsp hs1 hsz
          have HSP := Lib.hid hspe
          clear hspe
          go_wp2_with (first
            | (refine wpList_load_blk rfl 165 (.tmp 3) rfl p3 rfl sp _ _ HV.out.1 Tryz.underlying165 rfl hsz ?_)
            | (refine wpList_store_blk rfl 165 (.tmp 2) (.tmp 88) rfl p2 rfl sp (u32s (zerosW 64)) _ rfl HV.out.2.2 (by rw [hsp, zerosW_len]) hsz hs1 (fun w' hb' ht' hs' => ?_))
            | fail)
          refine bodyPost_ret (results_cell_row rfl _ _ p2 _ _ _ _ rfl hb' Tryz.underlying165 rfl (by rw [List.size_toArray]; exact hsz)) rfl ?_
          have hpw := HP.out
          have hp3w := HP3.out
          refine ⟨by rw [HSP.out], (t0.trans HV.out.2.1 (by intro x hx; simp at hx; exact .inr (by omega))).trans ht' (by intro x hx; simp at hx; exact .inr (by omega))⟩
end Go.Proofs.YtoahnhphfabajaaGreat
