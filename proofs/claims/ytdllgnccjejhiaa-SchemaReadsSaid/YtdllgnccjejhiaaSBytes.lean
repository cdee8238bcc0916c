/- Schemas as bytes. -/
import Derived.Test.YtdllgnccjejhiaaWr
import Derived.Test.YtdllgnccjejhiaaSame
namespace Go.Proofs.Ytdllgnccjejhiaa
open Go.RowKit
set_option linter.unusedVariables false
set_option maxRecDepth 10000
set_option linter.unusedSimpArgs false
set_option linter.unnecessarySimpa false

def flagI (b : Bool) : Int := if b = true then 1 else 0
def colBytes (c : Col) : List UInt8 := textBytes c.name.data.toList ++ [byte1 c.kind] ++ [byte1 (flagI c.null)]
def colsBytes (l : List Col) : List UInt8 := l.flatMap colBytes
def headBytes (s : Sch) : List UInt8 := textBytes s.name.data.toList ++ [byte1 s.cols.length] ++ []
def schBytes (s : Sch) : List UInt8 := headBytes s ++ colsBytes s.cols ++ le8 s.key ++ [byte1 (flagI s.only)]
theorem colsBytes_step (l : List Col) (k : Nat) (hk : k < l.length) : colsBytes (l.take (k + 1)) = colsBytes (l.take k) ++ colBytes l[k] := by
  unfold colsBytes
  rw [List.take_succ_eq_append_getElem hk, List.flatMap_append]; simp
theorem textBytes_len (s : List UInt8) : (textBytes s).length ≤ 65537 := by
  have := textBytes_length s
  omega
theorem colBytes_len (c : Col) : (colBytes c).length ≤ 65539 := by
  have := textBytes_len c.name.data.toList
  unfold colBytes
  simp only [List.length_append, List.length_cons, List.length_nil]
  omega
theorem colsBytes_len (l : List Col) : (colsBytes l).length ≤ l.length * 65539 := by
  induction l with
  | nil => simp [colsBytes]
  | cons c l ih =>
    have := colBytes_len c
    unfold colsBytes at *
    rw [List.flatMap_cons, List.length_append, List.length_cons]
    omega
theorem headBytes_len (s : Sch) : (headBytes s).length ≤ 65538 := by
  have := textBytes_len s.name.data.toList
  unfold headBytes
  simp only [List.length_append, List.length_cons, List.length_nil]
  omega

theorem flag_any (b : Bool) (w : World) : Calls Try.prog 31 #[.bool b] w fun e w' => e = .returned (.int .i64 (flagI b)) ∧ w = w' := by
  cases b
  · go_enter Try.func31, Try.ntmps31
    go_wp2_with fail
    go_ret
    exact ⟨rfl, rfl⟩
  · go_enter Try.func31, Try.ntmps31
    go_wp2_with fail
    go_ret
    exact ⟨rfl, rfl⟩
theorem bit_any (b : Bool) (w : World) : Calls Try.prog 35 #[.bool b] w fun e w' => e = .returned (.int .i64 (flagI b)) ∧ w = w' := by
  cases b
  · go_enter Try.func35, Try.ntmps35
    go_wp2_with fail
    go_ret
    exact ⟨rfl, rfl⟩
  · go_enter Try.func35, Try.ntmps35
    go_wp2_with fail
    go_ret
    exact ⟨rfl, rfl⟩

set_option maxRecDepth 100000 in
set_option maxHeartbeats 2000000 in
theorem Bytes_any (s : Sch) (A : Option Addr) (n c : Nat) (B : Nat) (w : World) (hf : s.fits) (hs : Sl w B 3 (.slice A n c) n (colCells s.cols)) (hB : B ≤ w.heap.size) (hn9 : s.cols.length ≤ 9) :
    Calls Try.prog 20 #[.agg #[.string s.name, .slice A n c, .int .i64 s.key, .bool s.only]] w fun e w' => ∃ v', e = .returned v' ∧ Mine w w' v' (schBytes s) := by
  obtain ⟨rfl, hm⟩ := sl_cols hs
  have hl1 := headBytes_len s
  have hl2 := colsBytes_len s.cols
  have hfn := hf.1
  obtain ⟨X0, hX0⟩ : ∃ X0, X0 = w.alloc (.cells #[.string s.name, .slice A s.cols.length c, .int .i64 s.key, .bool s.only] 30) := ⟨_, rfl⟩
  have b0 := Blk.new w [.string s.name, .slice A s.cols.length c, .int .i64 s.key, .bool s.only] 30
  have t0 := (Turns.refl [] w).alloc (.cells #[.string s.name, .slice A s.cols.length c, .int .i64 s.key, .bool s.only] 30)
  rw [← hX0] at t0
  rw [show w.alloc (.cells [.string s.name, .slice A s.cols.length c, .int .i64 s.key, .bool s.only].toArray 30) = X0 from hX0.symm] at b0
  have sl0 := t0.slice hs hB (by simp)
  have k0 := b0.cell 0
  have k1 := b0.cell 1
  have k2 := b0.cell 2
  have k3 := b0.cell 3
  simp only [List.getElem?_cons_zero, List.getElem?_cons_succ] at k0 k1 k2 k3
  have hX := Lib.hid hX0
  clear hX0 b0 hs
  go_enter Try.func20, Try.ntmps20
  go_upto_region 1 with fail
  rw [← hX.out]
  have hS0 : Turns [] X0 X0.drew := (Turns.refl _ _).drew
  have m0 : Mine X0 X0.drew (.slice none 0 0) [] := Mine.nil hS0
  refine reg_begin (fun W => Turns [] X0 W) (fun _ => True) 8 8 #[false, false, false, false, false, false, false, false] (by kernel_rfl) (by kernel_rfl) (by kernel_rfl) ?_
  refine reg_take 0 6 7 #[true, false, false, false, false, false, false, false] (by rfl) (v := ?_) rfl rfl (by kernel_rfl) (by kernel_rfl) (by kernel_rfl) (by kernel_rfl) (fun _ _ _ h => h) (by rfl) ?_ (Till.mk' hS0 trivial) ?_
  rotate_left
  · intro W hS; go_simp; all_goals with_reducible rfl
  try simp only [List.setIfInBounds_toArray, List.set_cons_succ, List.set_cons_zero]
  refine reg_take 1 7 6 #[true, true, false, false, false, false, false, false] (by rfl) (v := ?_) rfl rfl (by kernel_rfl) (by kernel_rfl) (by kernel_rfl) (by kernel_rfl) (fun _ _ _ h => h) (by rfl) ?_ (Till.mk' hS0 trivial) ?_
  rotate_left
  · intro W hS; have c2 := cellT hS k0; go_simp; all_goals with_reducible rfl
  try simp only [List.setIfInBounds_toArray, List.set_cons_succ, List.set_cons_zero]
  refine reg_take 3 9 5 #[true, true, false, true, false, false, false, false] (by rfl) (v := ?_) rfl rfl (by kernel_rfl) (by kernel_rfl) (by kernel_rfl) (by kernel_rfl) (fun _ _ _ h => h) (by rfl) ?_ (Till.mk' hS0 trivial) ?_
  rotate_left
  · intro W hS; go_simp; all_goals with_reducible rfl
  try simp only [List.setIfInBounds_toArray, List.set_cons_succ, List.set_cons_zero]
  refine reg_take 4 10 4 #[true, true, false, true, true, false, false, false] (by rfl) (v := ?_) rfl rfl (by kernel_rfl) (by kernel_rfl) (by kernel_rfl) (by kernel_rfl) (fun _ _ _ h => h) (by rfl) ?_ (Till.mk' hS0 trivial) ?_
  rotate_left
  · intro W hS; have c2 := cellT hS k1; go_simp; all_goals with_reducible rfl
  try simp only [List.setIfInBounds_toArray, List.set_cons_succ, List.set_cons_zero]
  refine reg_take 5 11 3 #[true, true, false, true, true, true, false, false] (by rfl) (v := ?_) rfl rfl (by kernel_rfl) (by kernel_rfl) (by kernel_rfl) (by kernel_rfl) (fun _ _ _ h => h) (by rfl) ?_ (Till.mk' hS0 trivial) ?_
  rotate_left
  · intro W hS; go_simp; all_goals with_reducible rfl
  try simp only [List.setIfInBounds_toArray, List.set_cons_succ, List.set_cons_zero]
  refine reg_one 2 2 #[true, true, true, true, true, true, false, false] (by kernel_rfl) rfl (by rfl) (by kernel_rfl) (fun K hK => ?_)
  go_simp
  refine (CText s.name m0 (by simp) (by simpa [maxLen] using hfn)).mono ?_
  rintro e x1 ⟨v1, rfl, m1, tt⟩
  have hS1 := hS0.trans tt (by simp)
  clear tt
  refine hK _ _ (Till.mk' hS1 trivial) ?_
  clear hK K
  try simp only [List.setIfInBounds_toArray, List.set_cons_succ, List.set_cons_zero]
  refine reg_one 6 1 #[true, true, true, true, true, true, true, false] (by kernel_rfl) rfl (by rfl) (by kernel_rfl) (fun K hK => ?_)
  go_simp
  refine (CByte s.cols.length m1 (by simp; have := textBytes_len s.name.data.toList; omega)).mono ?_
  rintro e x2 ⟨v2, rfl, m2, tt⟩
  have hS2 := hS1.trans tt (by simp)
  clear tt
  refine hK _ _ (Till.mk' hS2 trivial) ?_
  clear hK K
  try simp only [List.setIfInBounds_toArray, List.set_cons_succ, List.set_cons_zero]
  refine reg_take 7 3 0 #[true, true, true, true, true, true, true, true] (by rfl) (v := ?_) rfl rfl (by kernel_rfl) (by kernel_rfl) (by kernel_rfl) (by kernel_rfl) (fun _ _ _ h => h) (by rfl) ?_ (Till.mk' hS2 trivial) ?_
  rotate_left
  · intro W hS; go_simp; all_goals with_reducible rfl
  try simp only [List.setIfInBounds_toArray, List.set_cons_succ, List.set_cons_zero]
  refine reg_done (by kernel_rfl) ?_ _
  clear hS0 hS1 hS2 m0 m1
  have hfn' := hf.2
  rw [List.nil_append] at m2
  have m3 : Mine X0 x2 v2 (headBytes s ++ colsBytes (s.cols.take 0)) := by
    have e : textBytes s.name.data.toList ++ [byte1 s.cols.length] = headBytes s ++ colsBytes (s.cols.take 0) := by simp [headBytes, colsBytes]
    rw [← e]; exact m2
  have c1 := cellT m3.turns k1
  clear m2
  go_upto_region 2 with fail
  go_wp2_with fail
  go_loopw [3, 16] (fun v i wr => ∃ k : Nat, k ≤ s.cols.length ∧ i = .int .i64 k ∧ Mine X0 wr v (headBytes s ++ colsBytes (s.cols.take k))) (fun _ i _ => s.cols.length - (intOf i).toNat)
  case atStart => exact ⟨0, by omega, rfl, m3⟩
  case round =>
    clear m3 c1
    obtain ⟨k, hk, rfl, m0⟩ := hrel
    have hl3 := colsBytes_len (s.cols.take k)
    rw [List.length_take] at hl3
    have hml : (headBytes s ++ colsBytes (s.cols.take k)).length ≤ 999000000 := by rw [List.length_append]; omega
    by_cases hlt : k < s.cols.length
    · have hst := Lib.hid (show headBytes s ++ colsBytes (s.cols.take (k + 1)) = headBytes s ++ colsBytes (s.cols.take k) ++ textBytes s.cols[k].name.data.toList ++ [byte1 s.cols[k].kind] ++ [byte1 (flagI s.cols[k].null)] by rw [colsBytes_step _ k hlt, ← List.append_assoc]; simp only [colBytes, List.append_assoc])
      obtain ⟨b, off, rfl, rg⟩ := col_range sl0 k hlt
      have hr := rangeT m0.turns rg
      have hsz : (Try.prog.info? 27).map (·.size) = some s.cols[k].cells.length := T27i
      have hnm := hfn' _ (List.getElem_mem hlt)
      obtain ⟨⟨nm, kd, nl⟩, hcc⟩ : ∃ cc, cc = s.cols[k] := ⟨_, rfl⟩
      rw [← hcc] at hr hsz hnm
      have hki : (k : Int) < (s.cols.length : Int) := by omega
      replace hr : wr.rangeAt b (off + k * 3) [.string nm, .int .i64 kd, .bool nl] := hr
      replace hsz : (Try.prog.info? 27).map (·.size) = some ([.string nm, .int .i64 kd, .bool nl] : List Value).length := hsz
      rw [← hcc] at hst
      clear hcc rg
      replace hnm : nm.size ≤ maxLen := by simpa [maxLen] using hnm
      generalize headBytes s ++ colsBytes (s.cols.take k) = bs at m0 hml hst
      obtain ⟨X1, hX1⟩ : ∃ X1, X1 = wr.alloc (.cells #[.string nm, .int .i64 kd, .bool nl] 27) := ⟨_, rfl⟩
      have b1 := Blk.new wr [.string nm, .int .i64 kd, .bool nl] 27
      rw [show wr.alloc (.cells [.string nm, .int .i64 kd, .bool nl].toArray 27) = X1 from hX1.symm] at b1
      have m0 := m0.alloc (.cells #[.string nm, .int .i64 kd, .bool nl] 27)
      rw [← hX1] at m0
      have q0 := b1.cell 0
      have q1 := b1.cell 1
      have q2 := b1.cell 2
      simp only [List.getElem?_cons_zero, List.getElem?_cons_succ] at q0 q1 q2
      have HX1 := Lib.hid hX1
      clear hX1 b1
      go_upto_region 5 with (first
        | (refine wpList_load_mid rfl 27 (.tmp 18) rfl b (off + k * 3) rfl _ _ hr Try.underlying27 rfl hsz ?_)
        | fail)
      rw [← HX1.out]
      have hS0 : Turns [] X1 X1.drew := (Turns.refl _ _).drew
      replace m0 := m0.drew
      refine reg_begin (fun W => Turns [] X1 W) (fun _ => True) 12 12 #[false, false, false, false, false, false, false, false, false, false, false, false] (by kernel_rfl) (by kernel_rfl) (by kernel_rfl) ?_
      refine reg_take 0 20 11 #[true, false, false, false, false, false, false, false, false, false, false, false] (by rfl) (v := ?_) rfl rfl (by kernel_rfl) (by kernel_rfl) (by kernel_rfl) (by kernel_rfl) (fun _ _ _ h => h) (by rfl) ?_ (Till.mk' hS0 trivial) ?_
      rotate_left
      · intro W hS; go_simp; all_goals with_reducible rfl
      try simp only [List.setIfInBounds_toArray, List.set_cons_succ, List.set_cons_zero]
      refine reg_take 1 21 10 #[true, true, false, false, false, false, false, false, false, false, false, false] (by rfl) (v := ?_) rfl rfl (by kernel_rfl) (by kernel_rfl) (by kernel_rfl) (by kernel_rfl) (fun _ _ _ h => h) (by rfl) ?_ (Till.mk' hS0 trivial) ?_
      rotate_left
      · intro W hS; go_simp; all_goals with_reducible rfl
      try simp only [List.setIfInBounds_toArray, List.set_cons_succ, List.set_cons_zero]
      refine reg_take 2 22 9 #[true, true, true, false, false, false, false, false, false, false, false, false] (by rfl) (v := ?_) rfl rfl (by kernel_rfl) (by kernel_rfl) (by kernel_rfl) (by kernel_rfl) (fun _ _ _ h => h) (by rfl) ?_ (Till.mk' hS0 trivial) ?_
      rotate_left
      · intro W hS; have c2 := cellT hS q0; go_simp; all_goals with_reducible rfl
      try simp only [List.setIfInBounds_toArray, List.set_cons_succ, List.set_cons_zero]
      refine reg_take 4 24 8 #[true, true, true, false, true, false, false, false, false, false, false, false] (by rfl) (v := ?_) rfl rfl (by kernel_rfl) (by kernel_rfl) (by kernel_rfl) (by kernel_rfl) (fun _ _ _ h => h) (by rfl) ?_ (Till.mk' hS0 trivial) ?_
      rotate_left
      · intro W hS; go_simp; all_goals with_reducible rfl
      try simp only [List.setIfInBounds_toArray, List.set_cons_succ, List.set_cons_zero]
      refine reg_take 5 25 7 #[true, true, true, false, true, true, false, false, false, false, false, false] (by rfl) (v := ?_) rfl rfl (by kernel_rfl) (by kernel_rfl) (by kernel_rfl) (by kernel_rfl) (fun _ _ _ h => h) (by rfl) ?_ (Till.mk' hS0 trivial) ?_
      rotate_left
      · intro W hS; have c2 := cellT hS q1; go_simp; all_goals with_reducible rfl
      try simp only [List.setIfInBounds_toArray, List.set_cons_succ, List.set_cons_zero]
      refine reg_take 7 27 6 #[true, true, true, false, true, true, false, true, false, false, false, false] (by rfl) (v := ?_) rfl rfl (by kernel_rfl) (by kernel_rfl) (by kernel_rfl) (by kernel_rfl) (fun _ _ _ h => h) (by rfl) ?_ (Till.mk' hS0 trivial) ?_
      rotate_left
      · intro W hS; go_simp; all_goals with_reducible rfl
      try simp only [List.setIfInBounds_toArray, List.set_cons_succ, List.set_cons_zero]
      refine reg_take 8 28 5 #[true, true, true, false, true, true, false, true, true, false, false, false] (by rfl) (v := ?_) rfl rfl (by kernel_rfl) (by kernel_rfl) (by kernel_rfl) (by kernel_rfl) (fun _ _ _ h => h) (by rfl) ?_ (Till.mk' hS0 trivial) ?_
      rotate_left
      · intro W hS; have c2 := cellT hS q2; go_simp; all_goals with_reducible rfl
      try simp only [List.setIfInBounds_toArray, List.set_cons_succ, List.set_cons_zero]
      refine reg_one 3 4 #[true, true, true, true, true, true, false, true, true, false, false, false] (by kernel_rfl) rfl (by rfl) (by kernel_rfl) (fun K hK => ?_)
      go_simp
      refine (CText nm m0 (by omega) hnm).mono ?_
      rintro e x1 ⟨v1, rfl, m1, tt⟩
      have hS1 := hS0.trans tt (by simp)
      clear tt
      refine hK _ _ (Till.mk' hS1 trivial) ?_
      clear hK K
      try simp only [List.setIfInBounds_toArray, List.set_cons_succ, List.set_cons_zero]
      refine reg_one 6 3 #[true, true, true, true, true, true, true, true, true, false, false, false] (by kernel_rfl) rfl (by rfl) (by kernel_rfl) (fun K hK => ?_)
      go_simp
      refine (CByte kd m1 (by rw [List.length_append]; have := textBytes_len nm.data.toList; omega)).mono ?_
      rintro e x2 ⟨v2, rfl, m2, tt⟩
      have hS2 := hS1.trans tt (by simp)
      clear tt
      refine hK _ _ (Till.mk' hS2 trivial) ?_
      clear hK K
      try simp only [List.setIfInBounds_toArray, List.set_cons_succ, List.set_cons_zero]
      refine reg_one 9 2 #[true, true, true, true, true, true, true, true, true, true, false, false] (by kernel_rfl) rfl (by rfl) (by kernel_rfl) (fun K hK => ?_)
      go_simp
      refine (flag_any nl _).mono ?_
      rintro e ww ⟨rfl, rfl⟩
      refine hK _ _ (Till.mk' hS2 trivial) ?_
      clear hK K
      try simp only [List.setIfInBounds_toArray, List.set_cons_succ, List.set_cons_zero]
      refine reg_one 10 1 #[true, true, true, true, true, true, true, true, true, true, true, false] (by kernel_rfl) rfl (by rfl) (by kernel_rfl) (fun K hK => ?_)
      go_simp
      refine (CByte (flagI nl) m2 (by rw [List.length_append, List.length_append]; have := textBytes_len nm.data.toList; simp; omega)).mono ?_
      rintro e x3 ⟨v3, rfl, m3, tt⟩
      have hS3 := hS2.trans tt (by simp)
      clear tt
      refine hK _ _ (Till.mk' hS3 trivial) ?_
      clear hK K
      try simp only [List.setIfInBounds_toArray, List.set_cons_succ, List.set_cons_zero]
      refine reg_take 11 3 0 #[true, true, true, true, true, true, true, true, true, true, true, true] (by rfl) (v := ?_) rfl rfl (by kernel_rfl) (by kernel_rfl) (by kernel_rfl) (by kernel_rfl) (fun _ _ _ h => h) (by rfl) ?_ (Till.mk' hS3 trivial) ?_
      rotate_left
      · intro W hS; go_simp; all_goals with_reducible rfl
      try simp only [List.setIfInBounds_toArray, List.set_cons_succ, List.set_cons_zero]
      refine reg_done (by kernel_rfl) ?_ _
      rw [← hst.out] at m3
      clear m0 m1 m2 hS0 hS1 hS2 hS3 hr
      go_wp2_with fail
      go_roundw
      case rel => exact ⟨k + 1, by omega, by go_num, m3⟩
      case measure => (simp [intOf] <;> omega)
    · obtain rfl : k = s.cols.length := by omega
      rw [List.take_length] at m0 hml
      have k2x := cellT m0.turns k2
      have k3x := cellT m0.turns k3
      have hfin := Lib.hid (show schBytes s = headBytes s ++ colsBytes s.cols ++ le8 s.key ++ [byte1 (flagI s.only)] from rfl)
      generalize headBytes s ++ colsBytes s.cols = bs at m0 hml hfin
      have hS0 : Turns [] wr wr.drew := (Turns.refl _ _).drew
      replace m0 := m0.drew
      go_upto_region 7 with fail
      refine reg_begin (fun W => Turns [] wr W) (fun _ => True) 9 9 #[false, false, false, false, false, false, false, false, false] (by kernel_rfl) (by kernel_rfl) (by kernel_rfl) ?_
      refine reg_take 0 32 8 #[true, false, false, false, false, false, false, false, false] (by rfl) (v := ?_) rfl rfl (by kernel_rfl) (by kernel_rfl) (by kernel_rfl) (by kernel_rfl) (fun _ _ _ h => h) (by rfl) ?_ (Till.mk' hS0 trivial) ?_
      rotate_left
      · intro W hS; go_simp; all_goals with_reducible rfl
      try simp only [List.setIfInBounds_toArray, List.set_cons_succ, List.set_cons_zero]
      refine reg_take 1 33 7 #[true, true, false, false, false, false, false, false, false] (by rfl) (v := ?_) rfl rfl (by kernel_rfl) (by kernel_rfl) (by kernel_rfl) (by kernel_rfl) (fun _ _ _ h => h) (by rfl) ?_ (Till.mk' hS0 trivial) ?_
      rotate_left
      · intro W hS; go_simp; all_goals with_reducible rfl
      try simp only [List.setIfInBounds_toArray, List.set_cons_succ, List.set_cons_zero]
      refine reg_take 2 34 6 #[true, true, true, false, false, false, false, false, false] (by rfl) (v := ?_) rfl rfl (by kernel_rfl) (by kernel_rfl) (by kernel_rfl) (by kernel_rfl) (fun _ _ _ h => h) (by rfl) ?_ (Till.mk' hS0 trivial) ?_
      rotate_left
      · intro W hS; have c2 := cellT hS k2x; go_simp; all_goals with_reducible rfl
      try simp only [List.setIfInBounds_toArray, List.set_cons_succ, List.set_cons_zero]
      refine reg_take 4 36 5 #[true, true, true, false, true, false, false, false, false] (by rfl) (v := ?_) rfl rfl (by kernel_rfl) (by kernel_rfl) (by kernel_rfl) (by kernel_rfl) (fun _ _ _ h => h) (by rfl) ?_ (Till.mk' hS0 trivial) ?_
      rotate_left
      · intro W hS; go_simp; all_goals with_reducible rfl
      try simp only [List.setIfInBounds_toArray, List.set_cons_succ, List.set_cons_zero]
      refine reg_take 5 37 4 #[true, true, true, false, true, true, false, false, false] (by rfl) (v := ?_) rfl rfl (by kernel_rfl) (by kernel_rfl) (by kernel_rfl) (by kernel_rfl) (fun _ _ _ h => h) (by rfl) ?_ (Till.mk' hS0 trivial) ?_
      rotate_left
      · intro W hS; have c2 := cellT hS k3x; go_simp; all_goals with_reducible rfl
      try simp only [List.setIfInBounds_toArray, List.set_cons_succ, List.set_cons_zero]
      refine reg_one 3 3 #[true, true, true, true, true, true, false, false, false] (by kernel_rfl) rfl (by rfl) (by kernel_rfl) (fun K hK => ?_)
      go_simp
      refine (CInt s.key m0 (by omega)).mono ?_
      rintro e x1 ⟨v1, rfl, m1, tt⟩
      have hS1 := hS0.trans tt (by simp)
      clear tt
      refine hK _ _ (Till.mk' hS1 trivial) ?_
      clear hK K
      try simp only [List.setIfInBounds_toArray, List.set_cons_succ, List.set_cons_zero]
      refine reg_one 6 2 #[true, true, true, true, true, true, true, false, false] (by kernel_rfl) rfl (by rfl) (by kernel_rfl) (fun K hK => ?_)
      go_simp
      refine (flag_any s.only _).mono ?_
      rintro e ww ⟨rfl, rfl⟩
      refine hK _ _ (Till.mk' hS1 trivial) ?_
      clear hK K
      try simp only [List.setIfInBounds_toArray, List.set_cons_succ, List.set_cons_zero]
      refine reg_one 7 1 #[true, true, true, true, true, true, true, true, false] (by kernel_rfl) rfl (by rfl) (by kernel_rfl) (fun K hK => ?_)
      go_simp
      refine (CByte (flagI s.only) m1 (by rw [List.length_append, le8_length]; omega)).mono ?_
      rintro e x2 ⟨v2, rfl, m2, tt⟩
      have hS2 := hS1.trans tt (by simp)
      clear tt
      refine hK _ _ (Till.mk' hS2 trivial) ?_
      clear hK K
      try simp only [List.setIfInBounds_toArray, List.set_cons_succ, List.set_cons_zero]
      refine reg_take 8 2 0 #[true, true, true, true, true, true, true, true, true] (by rfl) (v := ?_) rfl rfl (by kernel_rfl) (by kernel_rfl) (by kernel_rfl) (by kernel_rfl) (fun _ _ _ h => h) (by rfl) ?_ (Till.mk' hS2 trivial) ?_
      rotate_left
      · intro W hS; go_simp; all_goals with_reducible rfl
      try simp only [List.setIfInBounds_toArray, List.set_cons_succ, List.set_cons_zero]
      refine reg_done (by kernel_rfl) ?_ _
      rw [← hfin.out] at m2
      have mm : Mine w x2 v2 (schBytes s) := ⟨own_more m2.own t0.size, t0.trans m2.turns (by simp)⟩
      clear m0 m1 m2 hS0 hS1 hS2 hfin
      go_wp2_with fail
      go_ret
      exact ⟨_, rfl, mm⟩

set_option maxRecDepth 100000 in
set_option maxHeartbeats 2000000 in
theorem refBytes_any (s : Sch) (A : Option Addr) (n c : Nat) (B : Nat) (w : World) (hf : s.fits) (hs : Sl w B 3 (.slice A n c) n (colCells s.cols)) (hB : B ≤ w.heap.size) (hn9 : s.cols.length ≤ 9) :
    Calls Try.prog 21 #[.agg #[.string s.name, .slice A n c, .int .i64 s.key, .bool s.only]] w fun e w' => ∃ v', e = .returned v' ∧ Mine w w' v' (schBytes s) := by
  obtain ⟨rfl, hm⟩ := sl_cols hs
  have hl1 := headBytes_len s
  have hl2 := colsBytes_len s.cols
  have hfn := hf.1
  obtain ⟨X0, hX0⟩ : ∃ X0, X0 = w.alloc (.cells #[.string s.name, .slice A s.cols.length c, .int .i64 s.key, .bool s.only] 30) := ⟨_, rfl⟩
  have b0 := Blk.new w [.string s.name, .slice A s.cols.length c, .int .i64 s.key, .bool s.only] 30
  have t0 := (Turns.refl [] w).alloc (.cells #[.string s.name, .slice A s.cols.length c, .int .i64 s.key, .bool s.only] 30)
  rw [← hX0] at t0
  rw [show w.alloc (.cells [.string s.name, .slice A s.cols.length c, .int .i64 s.key, .bool s.only].toArray 30) = X0 from hX0.symm] at b0
  have sl0 := t0.slice hs hB (by simp)
  have k0 := b0.cell 0
  have k1 := b0.cell 1
  have k2 := b0.cell 2
  have k3 := b0.cell 3
  simp only [List.getElem?_cons_zero, List.getElem?_cons_succ] at k0 k1 k2 k3
  have hX := Lib.hid hX0
  clear hX0 b0 hs
  go_enter Try.func21, Try.ntmps21
  go_upto_region 1 with fail
  rw [← hX.out]
  have hS0 : Turns [] X0 X0.drew := (Turns.refl _ _).drew
  have m0 : Mine X0 X0.drew (.slice none 0 0) [] := Mine.nil hS0
  refine reg_begin (fun W => Turns [] X0 W) (fun _ => True) 8 8 #[false, false, false, false, false, false, false, false] (by kernel_rfl) (by kernel_rfl) (by kernel_rfl) ?_
  refine reg_take 0 5 7 #[true, false, false, false, false, false, false, false] (by rfl) (v := ?_) rfl rfl (by kernel_rfl) (by kernel_rfl) (by kernel_rfl) (by kernel_rfl) (fun _ _ _ h => h) (by rfl) ?_ (Till.mk' hS0 trivial) ?_
  rotate_left
  · intro W hS; go_simp; all_goals with_reducible rfl
  try simp only [List.setIfInBounds_toArray, List.set_cons_succ, List.set_cons_zero]
  refine reg_take 1 6 6 #[true, true, false, false, false, false, false, false] (by rfl) (v := ?_) rfl rfl (by kernel_rfl) (by kernel_rfl) (by kernel_rfl) (by kernel_rfl) (fun _ _ _ h => h) (by rfl) ?_ (Till.mk' hS0 trivial) ?_
  rotate_left
  · intro W hS; have c2 := cellT hS k0; go_simp; all_goals with_reducible rfl
  try simp only [List.setIfInBounds_toArray, List.set_cons_succ, List.set_cons_zero]
  refine reg_take 3 8 5 #[true, true, false, true, false, false, false, false] (by rfl) (v := ?_) rfl rfl (by kernel_rfl) (by kernel_rfl) (by kernel_rfl) (by kernel_rfl) (fun _ _ _ h => h) (by rfl) ?_ (Till.mk' hS0 trivial) ?_
  rotate_left
  · intro W hS; go_simp; all_goals with_reducible rfl
  try simp only [List.setIfInBounds_toArray, List.set_cons_succ, List.set_cons_zero]
  refine reg_take 4 9 4 #[true, true, false, true, true, false, false, false] (by rfl) (v := ?_) rfl rfl (by kernel_rfl) (by kernel_rfl) (by kernel_rfl) (by kernel_rfl) (fun _ _ _ h => h) (by rfl) ?_ (Till.mk' hS0 trivial) ?_
  rotate_left
  · intro W hS; have c2 := cellT hS k1; go_simp; all_goals with_reducible rfl
  try simp only [List.setIfInBounds_toArray, List.set_cons_succ, List.set_cons_zero]
  refine reg_take 5 10 3 #[true, true, false, true, true, true, false, false] (by rfl) (v := ?_) rfl rfl (by kernel_rfl) (by kernel_rfl) (by kernel_rfl) (by kernel_rfl) (fun _ _ _ h => h) (by rfl) ?_ (Till.mk' hS0 trivial) ?_
  rotate_left
  · intro W hS; go_simp; all_goals with_reducible rfl
  try simp only [List.setIfInBounds_toArray, List.set_cons_succ, List.set_cons_zero]
  refine reg_one 2 2 #[true, true, true, true, true, true, false, false] (by kernel_rfl) rfl (by rfl) (by kernel_rfl) (fun K hK => ?_)
  go_simp
  refine (RText s.name m0 (by simp) (by simpa [maxLen] using hfn)).mono ?_
  rintro e x1 ⟨v1, rfl, m1⟩
  have hS1 := m1.turns
  refine hK _ _ (Till.mk' hS1 trivial) ?_
  clear hK K
  try simp only [List.setIfInBounds_toArray, List.set_cons_succ, List.set_cons_zero]
  refine reg_one 6 1 #[true, true, true, true, true, true, true, false] (by kernel_rfl) rfl (by rfl) (by kernel_rfl) (fun K hK => ?_)
  go_simp
  refine (RByte s.cols.length m1 (by simp; have := textBytes_len s.name.data.toList; omega)).mono ?_
  rintro e x2 ⟨v2, rfl, m2⟩
  have hS2 := m2.turns
  refine hK _ _ (Till.mk' hS2 trivial) ?_
  clear hK K
  try simp only [List.setIfInBounds_toArray, List.set_cons_succ, List.set_cons_zero]
  refine reg_take 7 3 0 #[true, true, true, true, true, true, true, true] (by rfl) (v := ?_) rfl rfl (by kernel_rfl) (by kernel_rfl) (by kernel_rfl) (by kernel_rfl) (fun _ _ _ h => h) (by rfl) ?_ (Till.mk' hS2 trivial) ?_
  rotate_left
  · intro W hS; go_simp; all_goals with_reducible rfl
  try simp only [List.setIfInBounds_toArray, List.set_cons_succ, List.set_cons_zero]
  refine reg_done (by kernel_rfl) ?_ _
  clear hS0 hS1 hS2 m0 m1
  have hfn' := hf.2
  rw [List.nil_append] at m2
  have m3 : Mine X0 x2 v2 (headBytes s ++ colsBytes (s.cols.take 0)) := by
    have e : textBytes s.name.data.toList ++ [byte1 s.cols.length] = headBytes s ++ colsBytes (s.cols.take 0) := by simp [headBytes, colsBytes]
    rw [← e]; exact m2
  have c1 := cellT m3.turns k1
  clear m2
  go_upto_region 2 with fail
  go_wp2_with fail
  go_loopw [3, 4] (fun v i wr => ∃ k : Nat, k ≤ s.cols.length ∧ i = .int .i64 k ∧ Mine X0 wr v (headBytes s ++ colsBytes (s.cols.take k))) (fun _ i _ => s.cols.length - (intOf i).toNat)
  case atStart => exact ⟨0, by omega, rfl, m3⟩
  case round =>
    clear m3 c1
    obtain ⟨k, hk, rfl, m0⟩ := hrel
    have hl3 := colsBytes_len (s.cols.take k)
    rw [List.length_take] at hl3
    have hml : (headBytes s ++ colsBytes (s.cols.take k)).length ≤ 999000000 := by rw [List.length_append]; omega
    have k1x := cellT m0.turns k1
    by_cases hlt : k < s.cols.length
    · have hst := Lib.hid (show headBytes s ++ colsBytes (s.cols.take (k + 1)) = headBytes s ++ colsBytes (s.cols.take k) ++ textBytes s.cols[k].name.data.toList ++ [byte1 s.cols[k].kind] ++ [byte1 (flagI s.cols[k].null)] by rw [colsBytes_step _ k hlt, ← List.append_assoc]; simp only [colBytes, List.append_assoc])
      obtain ⟨b, off, rfl, rg⟩ := col_range sl0 k hlt
      have hr := rangeT m0.turns rg
      have hsz : (Try.prog.info? 27).map (·.size) = some s.cols[k].cells.length := T27i
      have hnm := hfn' _ (List.getElem_mem hlt)
      obtain ⟨⟨nm, kd, nl⟩, hcc⟩ : ∃ cc, cc = s.cols[k] := ⟨_, rfl⟩
      rw [← hcc] at hr hsz hnm rg
      have hki : (k : Int) < (s.cols.length : Int) := by omega
      replace hr : wr.rangeAt b (off + k * 3) [.string nm, .int .i64 kd, .bool nl] := hr
      replace hsz : (Try.prog.info? 27).map (·.size) = some ([.string nm, .int .i64 kd, .bool nl] : List Value).length := hsz
      rw [← hcc] at hst
      clear hcc
      replace hnm : nm.size ≤ maxLen := by simpa [maxLen] using hnm
      generalize headBytes s ++ colsBytes (s.cols.take k) = bs at m0 hml hst
      have q0 : X0.cell? ⟨b, off + k * 3, none⟩ = some (.string nm) := rg 0 _ rfl
      have q1 : X0.cell? ⟨b, off + k * 3 + 1, none⟩ = some (.int .i64 kd) := rg 1 _ rfl
      have q2 : X0.cell? ⟨b, off + k * 3 + 2, none⟩ = some (.bool nl) := rg 2 _ rfl
      go_upto_region 5 with fail
      have hS0 : Turns [] X0 wr.drew := m0.turns.drew
      replace m0 := m0.drew
      refine reg_begin (fun W => Turns [] X0 W) (fun _ => True) 24 24 #[false, false, false, false, false, false, false, false, false, false, false, false, false, false, false, false, false, false, false, false, false, false, false, false] (by kernel_rfl) (by kernel_rfl) (by kernel_rfl) ?_
      refine reg_take 0 19 23 #[true, false, false, false, false, false, false, false, false, false, false, false, false, false, false, false, false, false, false, false, false, false, false, false] (by rfl) (v := ?_) rfl rfl (by kernel_rfl) (by kernel_rfl) (by kernel_rfl) (by kernel_rfl) (fun _ _ _ h => h) (by rfl) ?_ (Till.mk' hS0 trivial) ?_
      rotate_left
      · intro W hS; go_simp; all_goals with_reducible rfl
      try simp only [List.setIfInBounds_toArray, List.set_cons_succ, List.set_cons_zero]
      refine reg_take 1 20 22 #[true, true, false, false, false, false, false, false, false, false, false, false, false, false, false, false, false, false, false, false, false, false, false, false] (by rfl) (v := ?_) rfl rfl (by kernel_rfl) (by kernel_rfl) (by kernel_rfl) (by kernel_rfl) (fun _ _ _ h => h) (by rfl) ?_ (Till.mk' hS0 trivial) ?_
      rotate_left
      · intro W hS; go_simp; all_goals with_reducible rfl
      try simp only [List.setIfInBounds_toArray, List.set_cons_succ, List.set_cons_zero]
      refine reg_take 2 21 21 #[true, true, true, false, false, false, false, false, false, false, false, false, false, false, false, false, false, false, false, false, false, false, false, false] (by rfl) (v := ?_) rfl rfl (by kernel_rfl) (by kernel_rfl) (by kernel_rfl) (by kernel_rfl) (fun _ _ _ h => h) (by rfl) ?_ (Till.mk' hS0 trivial) ?_
      rotate_left
      · intro W hS; have c2 := cellT hS k1; go_simp; all_goals with_reducible rfl
      try simp only [List.setIfInBounds_toArray, List.set_cons_succ, List.set_cons_zero]
      refine reg_take 3 22 20 #[true, true, true, true, false, false, false, false, false, false, false, false, false, false, false, false, false, false, false, false, false, false, false, false] (by rfl) (v := ?_) rfl rfl (by kernel_rfl) (by kernel_rfl) (by kernel_rfl) (by kernel_rfl) (fun _ _ _ h => h) (by rfl) ?_ (Till.mk' hS0 trivial) ?_
      rotate_left
      · intro W hS; go_simp; all_goals with_reducible rfl
      try simp only [List.setIfInBounds_toArray, List.set_cons_succ, List.set_cons_zero]
      refine reg_take 4 23 19 #[true, true, true, true, true, false, false, false, false, false, false, false, false, false, false, false, false, false, false, false, false, false, false, false] (by rfl) (v := ?_) rfl rfl (by kernel_rfl) (by kernel_rfl) (by kernel_rfl) (by kernel_rfl) (fun _ _ _ h => h) (by rfl) ?_ (Till.mk' hS0 trivial) ?_
      rotate_left
      · intro W hS; go_simp; all_goals with_reducible rfl
      try simp only [List.setIfInBounds_toArray, List.set_cons_succ, List.set_cons_zero]
      refine reg_take 5 24 18 #[true, true, true, true, true, true, false, false, false, false, false, false, false, false, false, false, false, false, false, false, false, false, false, false] (by rfl) (v := ?_) rfl rfl (by kernel_rfl) (by kernel_rfl) (by kernel_rfl) (by kernel_rfl) (fun _ _ _ h => h) (by rfl) ?_ (Till.mk' hS0 trivial) ?_
      rotate_left
      · intro W hS; go_simp; all_goals with_reducible rfl
      try simp only [List.setIfInBounds_toArray, List.set_cons_succ, List.set_cons_zero]
      refine reg_take 6 25 17 #[true, true, true, true, true, true, true, false, false, false, false, false, false, false, false, false, false, false, false, false, false, false, false, false] (by rfl) (v := ?_) rfl rfl (by kernel_rfl) (by kernel_rfl) (by kernel_rfl) (by kernel_rfl) (fun _ _ _ h => h) (by rfl) ?_ (Till.mk' hS0 trivial) ?_
      rotate_left
      · intro W hS; have c2 := cellT hS q0; go_simp; all_goals with_reducible rfl
      try simp only [List.setIfInBounds_toArray, List.set_cons_succ, List.set_cons_zero]
      refine reg_take 8 27 16 #[true, true, true, true, true, true, true, false, true, false, false, false, false, false, false, false, false, false, false, false, false, false, false, false] (by rfl) (v := ?_) rfl rfl (by kernel_rfl) (by kernel_rfl) (by kernel_rfl) (by kernel_rfl) (fun _ _ _ h => h) (by rfl) ?_ (Till.mk' hS0 trivial) ?_
      rotate_left
      · intro W hS; go_simp; all_goals with_reducible rfl
      try simp only [List.setIfInBounds_toArray, List.set_cons_succ, List.set_cons_zero]
      refine reg_take 9 28 15 #[true, true, true, true, true, true, true, false, true, true, false, false, false, false, false, false, false, false, false, false, false, false, false, false] (by rfl) (v := ?_) rfl rfl (by kernel_rfl) (by kernel_rfl) (by kernel_rfl) (by kernel_rfl) (fun _ _ _ h => h) (by rfl) ?_ (Till.mk' hS0 trivial) ?_
      rotate_left
      · intro W hS; have c2 := cellT hS k1; go_simp; all_goals with_reducible rfl
      try simp only [List.setIfInBounds_toArray, List.set_cons_succ, List.set_cons_zero]
      refine reg_take 10 29 14 #[true, true, true, true, true, true, true, false, true, true, true, false, false, false, false, false, false, false, false, false, false, false, false, false] (by rfl) (v := ?_) rfl rfl (by kernel_rfl) (by kernel_rfl) (by kernel_rfl) (by kernel_rfl) (fun _ _ _ h => h) (by rfl) ?_ (Till.mk' hS0 trivial) ?_
      rotate_left
      · intro W hS; go_simp; all_goals with_reducible rfl
      try simp only [List.setIfInBounds_toArray, List.set_cons_succ, List.set_cons_zero]
      refine reg_take 11 30 13 #[true, true, true, true, true, true, true, false, true, true, true, true, false, false, false, false, false, false, false, false, false, false, false, false] (by rfl) (v := ?_) rfl rfl (by kernel_rfl) (by kernel_rfl) (by kernel_rfl) (by kernel_rfl) (fun _ _ _ h => h) (by rfl) ?_ (Till.mk' hS0 trivial) ?_
      rotate_left
      · intro W hS; go_simp; all_goals with_reducible rfl
      try simp only [List.setIfInBounds_toArray, List.set_cons_succ, List.set_cons_zero]
      refine reg_take 12 31 12 #[true, true, true, true, true, true, true, false, true, true, true, true, true, false, false, false, false, false, false, false, false, false, false, false] (by rfl) (v := ?_) rfl rfl (by kernel_rfl) (by kernel_rfl) (by kernel_rfl) (by kernel_rfl) (fun _ _ _ h => h) (by rfl) ?_ (Till.mk' hS0 trivial) ?_
      rotate_left
      · intro W hS; go_simp; all_goals with_reducible rfl
      try simp only [List.setIfInBounds_toArray, List.set_cons_succ, List.set_cons_zero]
      refine reg_take 13 32 11 #[true, true, true, true, true, true, true, false, true, true, true, true, true, true, false, false, false, false, false, false, false, false, false, false] (by rfl) (v := ?_) rfl rfl (by kernel_rfl) (by kernel_rfl) (by kernel_rfl) (by kernel_rfl) (fun _ _ _ h => h) (by rfl) ?_ (Till.mk' hS0 trivial) ?_
      rotate_left
      · intro W hS; have c2 := cellT hS q1; go_simp; all_goals with_reducible rfl
      try simp only [List.setIfInBounds_toArray, List.set_cons_succ, List.set_cons_zero]
      refine reg_take 15 34 10 #[true, true, true, true, true, true, true, false, true, true, true, true, true, true, false, true, false, false, false, false, false, false, false, false] (by rfl) (v := ?_) rfl rfl (by kernel_rfl) (by kernel_rfl) (by kernel_rfl) (by kernel_rfl) (fun _ _ _ h => h) (by rfl) ?_ (Till.mk' hS0 trivial) ?_
      rotate_left
      · intro W hS; go_simp; all_goals with_reducible rfl
      try simp only [List.setIfInBounds_toArray, List.set_cons_succ, List.set_cons_zero]
      refine reg_take 16 35 9 #[true, true, true, true, true, true, true, false, true, true, true, true, true, true, false, true, true, false, false, false, false, false, false, false] (by rfl) (v := ?_) rfl rfl (by kernel_rfl) (by kernel_rfl) (by kernel_rfl) (by kernel_rfl) (fun _ _ _ h => h) (by rfl) ?_ (Till.mk' hS0 trivial) ?_
      rotate_left
      · intro W hS; have c2 := cellT hS k1; go_simp; all_goals with_reducible rfl
      try simp only [List.setIfInBounds_toArray, List.set_cons_succ, List.set_cons_zero]
      refine reg_take 17 36 8 #[true, true, true, true, true, true, true, false, true, true, true, true, true, true, false, true, true, true, false, false, false, false, false, false] (by rfl) (v := ?_) rfl rfl (by kernel_rfl) (by kernel_rfl) (by kernel_rfl) (by kernel_rfl) (fun _ _ _ h => h) (by rfl) ?_ (Till.mk' hS0 trivial) ?_
      rotate_left
      · intro W hS; go_simp; all_goals with_reducible rfl
      try simp only [List.setIfInBounds_toArray, List.set_cons_succ, List.set_cons_zero]
      refine reg_take 18 37 7 #[true, true, true, true, true, true, true, false, true, true, true, true, true, true, false, true, true, true, true, false, false, false, false, false] (by rfl) (v := ?_) rfl rfl (by kernel_rfl) (by kernel_rfl) (by kernel_rfl) (by kernel_rfl) (fun _ _ _ h => h) (by rfl) ?_ (Till.mk' hS0 trivial) ?_
      rotate_left
      · intro W hS; go_simp; all_goals with_reducible rfl
      try simp only [List.setIfInBounds_toArray, List.set_cons_succ, List.set_cons_zero]
      refine reg_take 19 38 6 #[true, true, true, true, true, true, true, false, true, true, true, true, true, true, false, true, true, true, true, true, false, false, false, false] (by rfl) (v := ?_) rfl rfl (by kernel_rfl) (by kernel_rfl) (by kernel_rfl) (by kernel_rfl) (fun _ _ _ h => h) (by rfl) ?_ (Till.mk' hS0 trivial) ?_
      rotate_left
      · intro W hS; go_simp; all_goals with_reducible rfl
      try simp only [List.setIfInBounds_toArray, List.set_cons_succ, List.set_cons_zero]
      refine reg_take 20 39 5 #[true, true, true, true, true, true, true, false, true, true, true, true, true, true, false, true, true, true, true, true, true, false, false, false] (by rfl) (v := ?_) rfl rfl (by kernel_rfl) (by kernel_rfl) (by kernel_rfl) (by kernel_rfl) (fun _ _ _ h => h) (by rfl) ?_ (Till.mk' hS0 trivial) ?_
      rotate_left
      · intro W hS; have c2 := cellT hS q2; go_simp; all_goals with_reducible rfl
      try simp only [List.setIfInBounds_toArray, List.set_cons_succ, List.set_cons_zero]
      refine reg_one 7 4 #[true, true, true, true, true, true, true, true, true, true, true, true, true, true, false, true, true, true, true, true, true, false, false, false] (by kernel_rfl) rfl (by rfl) (by kernel_rfl) (fun K hK => ?_)
      go_simp
      refine (RText nm m0 (by omega) hnm).mono ?_
      rintro e x1 ⟨v1, rfl, m1⟩
      have hS1 := m1.turns
      refine hK _ _ (Till.mk' hS1 trivial) ?_
      clear hK K
      try simp only [List.setIfInBounds_toArray, List.set_cons_succ, List.set_cons_zero]
      refine reg_one 14 3 #[true, true, true, true, true, true, true, true, true, true, true, true, true, true, true, true, true, true, true, true, true, false, false, false] (by kernel_rfl) rfl (by rfl) (by kernel_rfl) (fun K hK => ?_)
      go_simp
      refine (RByte kd m1 (by rw [List.length_append]; have := textBytes_len nm.data.toList; omega)).mono ?_
      rintro e x2 ⟨v2, rfl, m2⟩
      have hS2 := m2.turns
      refine hK _ _ (Till.mk' hS2 trivial) ?_
      clear hK K
      try simp only [List.setIfInBounds_toArray, List.set_cons_succ, List.set_cons_zero]
      refine reg_one 21 2 #[true, true, true, true, true, true, true, true, true, true, true, true, true, true, true, true, true, true, true, true, true, true, false, false] (by kernel_rfl) rfl (by rfl) (by kernel_rfl) (fun K hK => ?_)
      go_simp
      refine (bit_any nl _).mono ?_
      rintro e ww ⟨rfl, rfl⟩
      refine hK _ _ (Till.mk' hS2 trivial) ?_
      clear hK K
      try simp only [List.setIfInBounds_toArray, List.set_cons_succ, List.set_cons_zero]
      refine reg_one 22 1 #[true, true, true, true, true, true, true, true, true, true, true, true, true, true, true, true, true, true, true, true, true, true, true, false] (by kernel_rfl) rfl (by rfl) (by kernel_rfl) (fun K hK => ?_)
      go_simp
      refine (RByte (flagI nl) m2 (by rw [List.length_append, List.length_append]; have := textBytes_len nm.data.toList; simp; omega)).mono ?_
      rintro e x3 ⟨v3, rfl, m3⟩
      have hS3 := m3.turns
      refine hK _ _ (Till.mk' hS3 trivial) ?_
      clear hK K
      try simp only [List.setIfInBounds_toArray, List.set_cons_succ, List.set_cons_zero]
      refine reg_take 23 3 0 #[true, true, true, true, true, true, true, true, true, true, true, true, true, true, true, true, true, true, true, true, true, true, true, true] (by rfl) (v := ?_) rfl rfl (by kernel_rfl) (by kernel_rfl) (by kernel_rfl) (by kernel_rfl) (fun _ _ _ h => h) (by rfl) ?_ (Till.mk' hS3 trivial) ?_
      rotate_left
      · intro W hS; go_simp; all_goals with_reducible rfl
      try simp only [List.setIfInBounds_toArray, List.set_cons_succ, List.set_cons_zero]
      refine reg_done (by kernel_rfl) ?_ _
      rw [← hst.out] at m3
      clear m0 m1 m2 hS0 hS1 hS2 hS3 hr
      go_wp2_with fail
      go_roundw
      case rel => exact ⟨k + 1, by omega, by go_num, m3⟩
      case measure => (simp [intOf] <;> omega)
    · obtain rfl : k = s.cols.length := by omega
      rw [List.take_length] at m0 hml
      have k2x := cellT m0.turns k2
      have k3x := cellT m0.turns k3
      have hfin := Lib.hid (show schBytes s = headBytes s ++ colsBytes s.cols ++ le8 s.key ++ [byte1 (flagI s.only)] from rfl)
      generalize headBytes s ++ colsBytes s.cols = bs at m0 hml hfin
      have hS0 : Turns [] X0 wr.drew := m0.turns.drew
      replace m0 := m0.drew
      go_upto_region 6 with fail
      refine reg_begin (fun W => Turns [] X0 W) (fun _ => True) 9 9 #[false, false, false, false, false, false, false, false, false] (by kernel_rfl) (by kernel_rfl) (by kernel_rfl) ?_
      refine reg_take 0 42 8 #[true, false, false, false, false, false, false, false, false] (by rfl) (v := ?_) rfl rfl (by kernel_rfl) (by kernel_rfl) (by kernel_rfl) (by kernel_rfl) (fun _ _ _ h => h) (by rfl) ?_ (Till.mk' hS0 trivial) ?_
      rotate_left
      · intro W hS; go_simp; all_goals with_reducible rfl
      try simp only [List.setIfInBounds_toArray, List.set_cons_succ, List.set_cons_zero]
      refine reg_take 1 43 7 #[true, true, false, false, false, false, false, false, false] (by rfl) (v := ?_) rfl rfl (by kernel_rfl) (by kernel_rfl) (by kernel_rfl) (by kernel_rfl) (fun _ _ _ h => h) (by rfl) ?_ (Till.mk' hS0 trivial) ?_
      rotate_left
      · intro W hS; go_simp; all_goals with_reducible rfl
      try simp only [List.setIfInBounds_toArray, List.set_cons_succ, List.set_cons_zero]
      refine reg_take 2 44 6 #[true, true, true, false, false, false, false, false, false] (by rfl) (v := ?_) rfl rfl (by kernel_rfl) (by kernel_rfl) (by kernel_rfl) (by kernel_rfl) (fun _ _ _ h => h) (by rfl) ?_ (Till.mk' hS0 trivial) ?_
      rotate_left
      · intro W hS; have c2 := cellT hS k2; go_simp; all_goals with_reducible rfl
      try simp only [List.setIfInBounds_toArray, List.set_cons_succ, List.set_cons_zero]
      refine reg_take 4 46 5 #[true, true, true, false, true, false, false, false, false] (by rfl) (v := ?_) rfl rfl (by kernel_rfl) (by kernel_rfl) (by kernel_rfl) (by kernel_rfl) (fun _ _ _ h => h) (by rfl) ?_ (Till.mk' hS0 trivial) ?_
      rotate_left
      · intro W hS; go_simp; all_goals with_reducible rfl
      try simp only [List.setIfInBounds_toArray, List.set_cons_succ, List.set_cons_zero]
      refine reg_take 5 47 4 #[true, true, true, false, true, true, false, false, false] (by rfl) (v := ?_) rfl rfl (by kernel_rfl) (by kernel_rfl) (by kernel_rfl) (by kernel_rfl) (fun _ _ _ h => h) (by rfl) ?_ (Till.mk' hS0 trivial) ?_
      rotate_left
      · intro W hS; have c2 := cellT hS k3; go_simp; all_goals with_reducible rfl
      try simp only [List.setIfInBounds_toArray, List.set_cons_succ, List.set_cons_zero]
      refine reg_one 3 3 #[true, true, true, true, true, true, false, false, false] (by kernel_rfl) rfl (by rfl) (by kernel_rfl) (fun K hK => ?_)
      go_simp
      refine (RInt s.key m0 (by omega)).mono ?_
      rintro e x1 ⟨v1, rfl, m1⟩
      have hS1 := m1.turns
      refine hK _ _ (Till.mk' hS1 trivial) ?_
      clear hK K
      try simp only [List.setIfInBounds_toArray, List.set_cons_succ, List.set_cons_zero]
      refine reg_one 6 2 #[true, true, true, true, true, true, true, false, false] (by kernel_rfl) rfl (by rfl) (by kernel_rfl) (fun K hK => ?_)
      go_simp
      refine (bit_any s.only _).mono ?_
      rintro e ww ⟨rfl, rfl⟩
      refine hK _ _ (Till.mk' hS1 trivial) ?_
      clear hK K
      try simp only [List.setIfInBounds_toArray, List.set_cons_succ, List.set_cons_zero]
      refine reg_one 7 1 #[true, true, true, true, true, true, true, true, false] (by kernel_rfl) rfl (by rfl) (by kernel_rfl) (fun K hK => ?_)
      go_simp
      refine (RByte (flagI s.only) m1 (by rw [List.length_append, le8_length]; omega)).mono ?_
      rintro e x2 ⟨v2, rfl, m2⟩
      have hS2 := m2.turns
      refine hK _ _ (Till.mk' hS2 trivial) ?_
      clear hK K
      try simp only [List.setIfInBounds_toArray, List.set_cons_succ, List.set_cons_zero]
      refine reg_take 8 2 0 #[true, true, true, true, true, true, true, true, true] (by rfl) (v := ?_) rfl rfl (by kernel_rfl) (by kernel_rfl) (by kernel_rfl) (by kernel_rfl) (fun _ _ _ h => h) (by rfl) ?_ (Till.mk' hS2 trivial) ?_
      rotate_left
      · intro W hS; go_simp; all_goals with_reducible rfl
      try simp only [List.setIfInBounds_toArray, List.set_cons_succ, List.set_cons_zero]
      refine reg_done (by kernel_rfl) ?_ _
      rw [← hfin.out] at m2
      have mm : Mine w x2 v2 (schBytes s) := ⟨own_more m2.own t0.size, t0.trans m2.turns (by simp)⟩
      clear m0 m1 m2 hS0 hS1 hS2 hfin
      go_wp2_with fail
      go_ret
      exact ⟨_, rfl, mm⟩
end Go.Proofs.Ytdllgnccjejhiaa
