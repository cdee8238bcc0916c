/- The document's Find and Check. -/
import Derived.Test.YtdllgnccjejhiaaSBytes
import Derived.Test.YtdllgnccjejhiaaRefName
namespace Go.Proofs.Ytdllgnccjejhiaa
open Go.RowKit
set_option linter.unusedVariables false
set_option maxRecDepth 10000
set_option linter.unusedSimpArgs false
set_option linter.unnecessarySimpa false

set_option maxHeartbeats 1000000 in
theorem refFind_any (s : Sch) (A : Option Addr) (n c : Nat) (t : ByteArray) (B : Nat) (w : World) (hs : Sl w B 3 (.slice A n c) n (colCells s.cols)) (hB : B ≤ w.heap.size) :
    Calls Try.prog 22 #[.agg #[.string s.name, .slice A n c, .int .i64 s.key, .bool s.only], .string t] w fun e w' => e = .returned (.tuple #[.int .i64 (max (findI t s.cols) 0), .bool (decide (0 ≤ findI t s.cols))]) ∧ Turns [] w w' := by
  obtain ⟨rfl, hm⟩ := sl_cols hs
  have t0 := (Turns.refl [] w).alloc (.cells #[.string s.name, .slice A s.cols.length c, .int .i64 s.key, .bool s.only] 30)
  have sl0 := t0.slice hs hB (by simp)
  clear hs
  go_enter Try.func22, Try.ntmps22
  go_wp2_with fail
  go_loop [6] (fun i => ∃ k : Nat, k ≤ s.cols.length ∧ i = .int .i64 k ∧ noneTo t s.cols k) (fun i => s.cols.length - (intOf i).toNat)
  case atStart => exact ⟨0, by omega, rfl, fun j hj h => absurd h (by omega)⟩
  case round =>
    obtain ⟨k, hk, rfl, hno⟩ := hrel
    by_cases hlt : k < s.cols.length
    · obtain ⟨b, off, rfl, rg⟩ := col_range sl0 k hlt
      have q0 := rg 0 _ rfl
      rw [Nat.add_zero] at q0
      have hki : (k : Int) < (s.cols.length : Int) := by omega
      have hb := Lib.hid (toList_beq s.cols[k].name t)
      have hf := Lib.hid (show sameT s.cols[k].name t = true → findI t s.cols = k from fun hy => by unfold findI; rw [findCol_at t s.cols k 0 hlt hno hy, Nat.zero_add])
      have hn' := Lib.hid (show sameT s.cols[k].name t = false → noneTo t s.cols (k + 1) from fun hy j hj hlt' => by
        by_cases e : j = k
        · subst e; exact hy
        · exact hno j hj (by omega))
      generalize s.cols[k].name = nm at q0 hb hf hn'
      clear hno rg sl0
      cases hy : (nm.toList == t.toList)
      · have hr := Lib.hid (hn'.out (by rw [← hb.out]; exact hy))
        clear hf hn' hb
        go_wp2_with fail
        go_round
        case rel => exact ⟨k + 1, by omega, by go_num, hr.out⟩
        case measure => (simp [intOf] <;> omega)
      · have hr := Lib.hid (hf.out (by rw [← hb.out]; exact hy))
        clear hf hn' hb
        go_wp2_with fail
        go_ret2
        rw [hr.out, decide_eq_true (by omega), show max ((k : Nat) : Int) 0 = k by omega]
        exact ⟨rfl, t0⟩
    · obtain rfl : k = s.cols.length := by omega
      have hf := Lib.hid (show findI t s.cols = -1 by unfold findI; rw [findCol_none t s.cols 0 hno])
      clear hno sl0
      go_wp2_with fail
      go_ret2
      rw [hf.out, decide_eq_false (by omega), show max (-1 : Int) 0 = 0 by omega]
      exact ⟨rfl, t0⟩

set_option maxRecDepth 100000 in
set_option maxHeartbeats 2000000 in
theorem refCheck_any (s : Sch) (A : Option Addr) (n c : Nat) (B : Nat) (w : World) (hf : s.fits) (hs : Sl w B 3 (.slice A n c) n (colCells s.cols)) (hB : B ≤ w.heap.size) :
    Calls Try.prog 19 #[.agg #[.string s.name, .slice A n c, .int .i64 s.key, .bool s.only]] w fun e w' => e = .returned (.int .i64 (checkS s)) ∧ Turns [] w w' := by
  obtain ⟨rfl, hm⟩ := sl_cols hs
  obtain ⟨X0, hX0⟩ : ∃ X0, X0 = w.alloc (.cells #[.string s.name, .slice A s.cols.length c, .int .i64 s.key, .bool s.only] 30) := ⟨_, rfl⟩
  have b0 := Blk.new w [.string s.name, .slice A s.cols.length c, .int .i64 s.key, .bool s.only] 30
  have t0 := (Turns.refl [] w).alloc (.cells #[.string s.name, .slice A s.cols.length c, .int .i64 s.key, .bool s.only] 30)
  rw [← hX0] at t0
  rw [show w.alloc (.cells [.string s.name, .slice A s.cols.length c, .int .i64 s.key, .bool s.only].toArray 30) = X0 from hX0.symm] at b0
  have sl0 := t0.slice hs hB (by simp)
  have k1 := b0.cell 1
  have k2 := b0.cell 2
  simp only [List.getElem?_cons_zero, List.getElem?_cons_succ] at k1 k2
  have r0 := b0.range 0 4
  rw [List.drop_zero, List.take_of_length_le (by simp)] at r0
  have hX := Lib.hid hX0
  have NM := Lib.hid (refName_any s.name hf.1 X0)
  have hB0 : B ≤ X0.heap.size := Nat.le_trans hB t0.size
  have hsz : (Try.prog.info? 30).map (·.size) = some ([.string s.name, .slice A s.cols.length c, .int .i64 s.key, .bool s.only] : List Value).length := by kernel_rfl
  clear hX0 b0 hs
  go_enter Try.func19, Try.ntmps19
  go_wp2_with fail
  rw [← hX.out]
  refine NM.out.mono ?_
  rintro e x1 ⟨rfl, t1⟩
  have k1x := cellT t1 k1
  have t01 := t0.trans t1 (by simp)
  clear NM
  cases hnm : nameOk s.name
  · have hck := Lib.hid (show checkS s = 12 by unfold checkS; rw [if_pos hnm])
    go_wp2_with fail
    go_ret
    exact ⟨by rw [hck.out]; rfl, t01⟩
  by_cases hn1 : s.cols.length < 1
  · have hck := Lib.hid (show checkS s = 4 by unfold checkS; rw [if_neg (by simp [hnm]), if_pos (.inl hn1)])
    have x1 : (s.cols.length : Int) < 1 := by omega
    go_wp2_with fail
    go_ret
    exact ⟨by rw [hck.out]; rfl, t01⟩
  have xx1 : 1 ≤ (s.cols.length : Int) := by omega
  by_cases hn6 : 6 < s.cols.length
  · have hck := Lib.hid (show checkS s = 4 by unfold checkS; rw [if_neg (by simp [hnm]), if_pos (.inr hn6)])
    have x2 : 6 < (s.cols.length : Int) := by omega
    go_wp2_with fail
    go_ret
    exact ⟨by rw [hck.out]; rfl, t01⟩
  have xx2 : (s.cols.length : Int) ≤ 6 := by omega
  have hck0 := Lib.hid (show checkS s = if colsCheck [] s.cols ≠ 0 then colsCheck [] s.cols else keyCheck s by unfold checkS; rw [if_neg (by simp [hnm]), if_neg (by omega)])
  clear hnm hn1 hn6
  have T1 := Lib.hid t1
  clear t1
  go_wp2_with fail
  clear k1x
  go_loopw [3] (fun i wr => ∃ k : Nat, k ≤ s.cols.length ∧ i = .int .i64 k ∧ colsCheck [] s.cols = colsCheck (s.cols.take k) (s.cols.drop k) ∧ Turns [] X0 wr) (fun i _ => s.cols.length - (intOf i).toNat)
  case atStart => exact ⟨0, by omega, rfl, by simp, T1.out⟩
  case round =>
    clear T1 t01
    obtain ⟨k, hk, rfl, hcc, ht⟩ := hrel
    have k1x := cellT ht k1
    by_cases hlt : k < s.cols.length
    · rw [colsCheck_step s.cols k hlt] at hcc
      obtain ⟨j, hfj, hjk, hjd⟩ := find_lt s.cols k hlt
      have hfit := hf.2 _ (List.getElem_mem hlt)
      obtain ⟨b, off, rfl, rg⟩ := col_range sl0 k hlt
      have q0 : X0.cell? ⟨b, off + k * 3, none⟩ = some (.string s.cols[k].name) := rg 0 _ rfl
      have q1 : X0.cell? ⟨b, off + k * 3 + 1, none⟩ = some (.int .i64 s.cols[k].kind) := rg 1 _ rfl
      have hki : (k : Int) < (s.cols.length : Int) := by omega
      have FD := refFind_any s (some ⟨b, off, none⟩) s.cols.length c s.cols[k].name B wr.drew (by exact (ht.drew).slice sl0 hB0 (by simp)) (Nat.le_trans hB0 ht.drew.size)
      rw [hfj] at FD
      have hmx : max ((j : Nat) : Int) 0 = j := by omega
      have hdx : decide ((0 : Int) ≤ (j : Nat)) = true := decide_eq_true (by omega)
      rw [hmx, hdx] at FD
      clear hfj hmx hdx
      generalize hgen : s.cols[k] = cc at q0 q1 hcc hjd hfit FD
      obtain ⟨nm, kd, nl⟩ := cc
      have FD' := Lib.hid FD
      have NM := fun W => refName_any nm hfit W
      have hq := Lib.hid hcc
      have hS0 : Turns [] X0 wr.drew := ht.drew
      clear hgen FD hcc
      go_upto_region 8 with fail
      refine reg_begin (fun W => Turns [] X0 W) (fun _ => True) 13 13 #[false, false, false, false, false, false, false, false, false, false, false, false, false] (by kernel_rfl) (by kernel_rfl) (by kernel_rfl) ?_
      refine reg_take_y 0 28 12 #[true, false, false, false, false, false, false, false, false, false, false, false, false] (by rfl) rfl rfl (by kernel_rfl) (by kernel_rfl) (by kernel_rfl) (by kernel_rfl) (fun _ _ _ h => h) (yieldsIf_load_mid (by rfl) _ _ rfl w.heap.size 0 (by rfl) _ _ (fun W hS => rangeT hS r0) Try.underlying30 rfl hsz) (Till.mk' hS0 trivial) ?_
      try simp only [List.setIfInBounds_toArray, List.set_cons_succ, List.set_cons_zero]
      refine reg_take 1 29 11 #[true, true, false, false, false, false, false, false, false, false, false, false, false] (by rfl) (v := ?_) rfl rfl (by kernel_rfl) (by kernel_rfl) (by kernel_rfl) (by kernel_rfl) (fun _ _ _ h => h) (by rfl) ?_ (Till.mk' hS0 trivial) ?_
      rotate_left
      · intro W hS; go_simp; all_goals with_reducible rfl
      try simp only [List.setIfInBounds_toArray, List.set_cons_succ, List.set_cons_zero]
      refine reg_take 2 30 10 #[true, true, true, false, false, false, false, false, false, false, false, false, false] (by rfl) (v := ?_) rfl rfl (by kernel_rfl) (by kernel_rfl) (by kernel_rfl) (by kernel_rfl) (fun _ _ _ h => h) (by rfl) ?_ (Till.mk' hS0 trivial) ?_
      rotate_left
      · intro W hS; have c2 := cellT hS k1; go_simp; all_goals with_reducible rfl
      try simp only [List.setIfInBounds_toArray, List.set_cons_succ, List.set_cons_zero]
      refine reg_take 3 31 9 #[true, true, true, true, false, false, false, false, false, false, false, false, false] (by rfl) (v := ?_) rfl rfl (by kernel_rfl) (by kernel_rfl) (by kernel_rfl) (by kernel_rfl) (fun _ _ _ h => h) (by rfl) ?_ (Till.mk' hS0 trivial) ?_
      rotate_left
      · intro W hS; go_simp; all_goals with_reducible rfl
      try simp only [List.setIfInBounds_toArray, List.set_cons_succ, List.set_cons_zero]
      refine reg_take 4 32 8 #[true, true, true, true, true, false, false, false, false, false, false, false, false] (by rfl) (v := ?_) rfl rfl (by kernel_rfl) (by kernel_rfl) (by kernel_rfl) (by kernel_rfl) (fun _ _ _ h => h) (by rfl) ?_ (Till.mk' hS0 trivial) ?_
      rotate_left
      · intro W hS; go_simp; all_goals with_reducible rfl
      try simp only [List.setIfInBounds_toArray, List.set_cons_succ, List.set_cons_zero]
      refine reg_take 5 33 7 #[true, true, true, true, true, true, false, false, false, false, false, false, false] (by rfl) (v := ?_) rfl rfl (by kernel_rfl) (by kernel_rfl) (by kernel_rfl) (by kernel_rfl) (fun _ _ _ h => h) (by rfl) ?_ (Till.mk' hS0 trivial) ?_
      rotate_left
      · intro W hS; go_simp; all_goals with_reducible rfl
      try simp only [List.setIfInBounds_toArray, List.set_cons_succ, List.set_cons_zero]
      refine reg_take 6 34 6 #[true, true, true, true, true, true, true, false, false, false, false, false, false] (by rfl) (v := ?_) rfl rfl (by kernel_rfl) (by kernel_rfl) (by kernel_rfl) (by kernel_rfl) (fun _ _ _ h => h) (by rfl) ?_ (Till.mk' hS0 trivial) ?_
      rotate_left
      · intro W hS; have c2 := cellT hS q0; go_simp; all_goals with_reducible rfl
      try simp only [List.setIfInBounds_toArray, List.set_cons_succ, List.set_cons_zero]
      refine reg_one 7 5 #[true, true, true, true, true, true, true, true, false, false, false, false, false] (by kernel_rfl) rfl (by rfl) (by kernel_rfl) (fun K hK => ?_)
      go_simp
      refine FD'.out.mono ?_
      rintro e x2 ⟨rfl, tt⟩
      have hS1 := hS0.trans tt (by simp)
      clear tt
      refine hK _ _ (Till.mk' hS1 trivial) ?_
      clear hK K
      try simp only [List.setIfInBounds_toArray, List.set_cons_succ, List.set_cons_zero]
      refine reg_take 8 27 4 #[true, true, true, true, true, true, true, true, true, false, false, false, false] (by rfl) (v := ?_) rfl rfl (by kernel_rfl) (by kernel_rfl) (by kernel_rfl) (by kernel_rfl) (fun _ _ _ h => h) (by rfl) ?_ (Till.mk' hS1 trivial) ?_
      rotate_left
      · intro W hS; go_simp; all_goals with_reducible rfl
      try simp only [List.setIfInBounds_toArray, List.set_cons_succ, List.set_cons_zero]
      refine reg_take 9 36 3 #[true, true, true, true, true, true, true, true, true, true, false, false, false] (by rfl) (v := ?_) rfl rfl (by kernel_rfl) (by kernel_rfl) (by kernel_rfl) (by kernel_rfl) (fun _ _ _ h => h) (by rfl) ?_ (Till.mk' hS1 trivial) ?_
      rotate_left
      · intro W hS; go_simp; all_goals with_reducible rfl
      try simp only [List.setIfInBounds_toArray, List.set_cons_succ, List.set_cons_zero]
      refine reg_take 10 37 2 #[true, true, true, true, true, true, true, true, true, true, true, false, false] (by rfl) (v := ?_) rfl rfl (by kernel_rfl) (by kernel_rfl) (by kernel_rfl) (by kernel_rfl) (fun _ _ _ h => h) (by rfl) ?_ (Till.mk' hS1 trivial) ?_
      rotate_left
      · intro W hS; go_simp; all_goals with_reducible rfl
      try simp only [List.setIfInBounds_toArray, List.set_cons_succ, List.set_cons_zero]
      refine reg_take 11 4 1 #[true, true, true, true, true, true, true, true, true, true, true, true, false] (by rfl) (v := ?_) rfl rfl (by kernel_rfl) (by kernel_rfl) (by kernel_rfl) (by kernel_rfl) (fun _ _ _ h => h) (by rfl) ?_ (Till.mk' hS1 trivial) ?_
      rotate_left
      · intro W hS; go_simp; all_goals with_reducible rfl
      try simp only [List.setIfInBounds_toArray, List.set_cons_succ, List.set_cons_zero]
      refine reg_take 12 5 0 #[true, true, true, true, true, true, true, true, true, true, true, true, true] (by rfl) (v := ?_) rfl rfl (by kernel_rfl) (by kernel_rfl) (by kernel_rfl) (by kernel_rfl) (fun _ _ _ h => h) (by rfl) ?_ (Till.mk' hS1 trivial) ?_
      rotate_left
      · intro W hS; go_simp; all_goals with_reducible rfl
      try simp only [List.setIfInBounds_toArray, List.set_cons_succ, List.set_cons_zero]
      refine reg_done (by kernel_rfl) ?_ _
      have k1y := cellT hS1 k1
      have q0y := cellT hS1 q0
      have NM' := Lib.hid (NM x2)
      have T2 := Lib.hid hS1
      clear hS0 hS1 FD' NM ht k1x
      go_wp2_with fail
      refine NM'.out.mono ?_
      rintro e x3 ⟨rfl, tt⟩
      have t03 := T2.out.trans tt (by simp)
      have k1z := cellT t03 k1
      have q1z := cellT t03 q1
      have t3 := t0.trans t03 (by simp)
      clear NM' tt k1y q0y
      cases hnm : nameOk nm
      · have hck := Lib.hid (show checkS s = 12 by
          have hx : colsCheck [] s.cols = 12 := by rw [hq.out, if_pos (.inl hnm)]
          rw [hck0.out, hx]; rfl)
        go_wp2_with fail
        go_ret
        exact ⟨by rw [hck.out]; rfl, t3⟩
      by_cases hj : j < k
      · have hck := Lib.hid (show checkS s = 12 by
          have hx : colsCheck [] s.cols = 12 := by rw [hq.out, if_pos (.inr (hjd.1 hj))]
          rw [hck0.out, hx]; rfl)
        have hjk1 : ((j : Int) != (k : Int)) = true := by simp; omega
        have hjk2 : ((j : Int) == (k : Int)) = false := by simp; omega
        have hjk3 : decide ((j : Int) = (k : Int)) = false := decide_eq_false (by omega)
        clear hjd
        go_wp2_with fail
        go_ret
        exact ⟨by rw [hck.out]; rfl, t3⟩
      obtain rfl : j = k := by omega
      have hnd : ¬ (nameOk nm = false ∨ ∃ d ∈ s.cols.take j, d.name = nm) := by
        rintro (h | h)
        · rw [hnm] at h; cases h
        · exact hj (hjd.2 h)
      by_cases hk1 : kd < 1
      · have hck := Lib.hid (show checkS s = 3 by
          have hx : colsCheck [] s.cols = 3 := by rw [hq.out, if_neg hnd, if_pos (.inl hk1)]
          rw [hck0.out, hx]; rfl)
        clear hjd hnd
        go_wp2_with fail
        go_ret
        exact ⟨by rw [hck.out]; rfl, t3⟩
      by_cases hk3 : 3 < kd
      · have hck := Lib.hid (show checkS s = 3 by
          have hx : colsCheck [] s.cols = 3 := by rw [hq.out, if_neg hnd, if_pos (.inr hk3)]
          rw [hck0.out, hx]; rfl)
        clear hjd hnd
        go_wp2_with fail
        go_ret
        exact ⟨by rw [hck.out]; rfl, t3⟩
      have hn' := Lib.hid (show colsCheck [] s.cols = colsCheck (s.cols.take (j + 1)) (s.cols.drop (j + 1)) by rw [hq.out, if_neg hnd, if_neg (by omega)])
      clear hjd hnd
      go_wp2_with fail
      go_roundw
      case rel => exact ⟨j + 1, by omega, by go_num, hn'.out, t03⟩
      case measure => (simp [intOf] <;> omega)
    · obtain rfl : k = s.cols.length := by omega
      have hq := Lib.hid (show colsCheck [] s.cols = 0 by rw [hcc, List.drop_length]; rfl)
      have hck0 := Lib.hid (show checkS s = keyCheck s by rw [hck0.out, hq.out]; rfl)
      have k2x := cellT ht k2
      have t3 := t0.trans ht (by simp)
      clear hcc
      by_cases hy1 : s.key < 0
      · have hck := Lib.hid (show checkS s = 1 by rw [hck0.out]; unfold keyCheck; rw [if_pos (.inl hy1)])
        go_wp2_with fail
        go_ret
        exact ⟨by rw [hck.out]; rfl, t3⟩
      by_cases hy2 : (s.cols.length : Int) ≤ s.key
      · have hck := Lib.hid (show checkS s = 1 by rw [hck0.out]; unfold keyCheck; rw [if_pos (.inr hy2)])
        go_wp2_with fail
        go_ret
        exact ⟨by rw [hck.out]; rfl, t3⟩
      obtain ⟨m, hmk⟩ : ∃ m : Nat, s.key = m := ⟨s.key.toNat, by omega⟩
      have hml : m < s.cols.length := by omega
      obtain ⟨b, off, rfl, rg⟩ := col_range sl0 m hml
      have q2 : wr.cell? ⟨b, off + m * 3 + 2, none⟩ = some (.bool s.cols[m].null) := cellT ht (rg 2 _ rfl)
      have hkc := Lib.hid (show keyCheck s = if s.cols[m].null = true then 13 else 0 by
        unfold keyCheck
        rw [if_neg (by omega), hmk, show ((m : Nat) : Int).toNat = m by omega, List.getD_eq_getElem?_getD, List.getElem?_eq_getElem hml]; rfl)
      have hmi : (m : Int) < (s.cols.length : Int) := by omega
      rw [hmk] at k2x
      clear hmk rg hy1 hy2
      cases hnl : s.cols[m].null
      · rw [hnl] at q2
        have hck := Lib.hid (show checkS s = 0 by rw [hck0.out, hkc.out, hnl]; rfl)
        clear hnl
        go_wp2_with fail
        go_ret
        exact ⟨by rw [hck.out]; rfl, t3⟩
      · rw [hnl] at q2
        have hck := Lib.hid (show checkS s = 13 by rw [hck0.out, hkc.out, hnl]; rfl)
        clear hnl
        go_wp2_with fail
        go_ret
        exact ⟨by rw [hck.out]; rfl, t3⟩
end Go.Proofs.Ytdllgnccjejhiaa
