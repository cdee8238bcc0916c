/- The law SchemaFinds, walked. -/
import Derived.Test.YtdllgnccjejhiaaGood
import Derived.Test.YtdllgnccjejhiaaFew
import Derived.Test.YtdllgnccjejhiaaSchArg
import Derived.Test.YtdllgnccjejhiaaKnown9
namespace Go.Proofs.Ytdllgnccjejhiaa
open Go.RowKit
set_option linter.unusedVariables false
set_option maxRecDepth 10000
set_option linter.unusedSimpArgs false
set_option linter.unnecessarySimpa false

theorem goodS_len (s : Sch) (z : Int) : (goodS s z).cols.length = goodL s := by simp [goodS, goodCols_len]
theorem goodCol_name (s : Sch) (i : Nat) : (goodCol s i).name = strOf [byteOf (97 + i)] := by unfold goodCol; split <;> rfl
theorem goodS_name (s : Sch) (z : Int) (k : Nat) (hk : k < (goodS s z).cols.length) : (goodS s z).cols[k].name = strOf [byteOf (97 + k)] := by
  have hk' : k < goodL s := by rw [goodS_len] at hk; exact hk
  have e : (goodCols s (goodL s))[k]'(by rw [goodCols_len]; exact hk') = goodCol s k := by simp [goodCols]
  have hk2 : k < ((goodCols s (goodL s)).set (goodKey s) (clr ((goodCols s (goodL s)).getD (goodKey s) ⟨⟨#[]⟩, 0, false⟩))).length := hk
  show (((goodCols s (goodL s)).set (goodKey s) (clr ((goodCols s (goodL s)).getD (goodKey s) ⟨⟨#[]⟩, 0, false⟩)))[k]'hk2).name = _
  rw [List.getElem_set]
  split
  · rename_i hq
    subst hq
    rw [List.getD_eq_getElem?_getD, List.getElem?_eq_getElem (by rw [goodCols_len]; exact hk')]
    show ((goodCols s (goodL s))[goodKey s]'_).name = _
    rw [e]; exact goodCol_name _ _
  · rw [e]; exact goodCol_name _ _
theorem byteOf_inj {a b : Nat} (ha : a < 256) (hb : b < 256) (h : byteOf a = byteOf b) : a = b := by
  have h1 := byteOf_toNat a ha
  have h2 := byteOf_toNat b hb
  rw [h] at h1
  omega
theorem strOf_one_inj {a b : UInt8} (h : strOf [a] = strOf [b]) : a = b := by
  have := congrArg (fun x => x.data.toList) h
  simpa [strOf] using this
theorem good_find (s : Sch) (z : Int) (k : Nat) (hk : k < (goodS s z).cols.length) : findI (strOf [byteOf (97 + k)]) (goodS s z).cols = k := by
  have hl := goodL_le s
  have hlen := goodS_len s z
  obtain ⟨j, h1, h2, h3⟩ := find_lt (goodS s z).cols k hk
  rw [goodS_name s z k hk] at h1 h3
  rw [h1]
  by_cases hj : j < k
  · exfalso
    obtain ⟨d, hd, hn⟩ := h3.1 hj
    obtain ⟨i, hi, rfl⟩ := List.mem_iff_getElem.1 hd
    rw [List.getElem_take] at hn
    have hik : i < k := by rw [List.length_take] at hi; omega
    rw [goodS_name s z i (by omega)] at hn
    have := byteOf_inj (by omega) (by omega) (strOf_one_inj hn)
    omega
  · have : j = k := by omega
    rw [this]
theorem good_zz (s : Sch) (z : Int) : findI ⟨#[122, 122]⟩ (goodS s z).cols = -1 := by
  unfold findI
  rw [findCol_none]
  intro j hj _
  unfold sameT
  rw [goodS_name s z j hj]
  apply decide_eq_false
  intro e
  have := congrArg ByteArray.size e
  rw [strOf_size] at this
  simp at this
  exact absurd this (by decide)

theorem Find_hit (s : Sch) (A : Option Addr) (n c : Nat) (t : ByteArray) (B k : Nat) (w : World) (hk : findI t s.cols = k) (hs : Sl w B 3 (.slice A n c) n (colCells s.cols)) (hB : B ≤ w.heap.size) :
    Calls Try.prog 17 #[.agg #[.string s.name, .slice A n c, .int .i64 s.key, .bool s.only], .string t] w fun e w' => e = .returned (.tuple #[.int .i64 (k : Nat), .bool true]) ∧ Turns [] w w' := by
  refine (Find_any s A n c t B w hs hB).mono ?_
  rintro e w' ⟨rfl, h⟩
  rw [hk, decide_eq_true (by omega), show max ((k : Nat) : Int) 0 = k by omega]
  exact ⟨rfl, h⟩
theorem Find_miss (s : Sch) (A : Option Addr) (n c : Nat) (t : ByteArray) (B : Nat) (w : World) (hk : findI t s.cols = -1) (hs : Sl w B 3 (.slice A n c) n (colCells s.cols)) (hB : B ≤ w.heap.size) :
    Calls Try.prog 17 #[.agg #[.string s.name, .slice A n c, .int .i64 s.key, .bool s.only], .string t] w fun e w' => e = .returned (.tuple #[.int .i64 0, .bool false]) ∧ Turns [] w w' := by
  refine (Find_any s A n c t B w hs hB).mono ?_
  rintro e w' ⟨rfl, h⟩
  rw [hk, decide_eq_false (by omega), show max (-1 : Int) 0 = 0 by omega]
  exact ⟨rfl, h⟩

set_option maxRecDepth 100000 in
set_option maxHeartbeats 2000000 in
theorem SchemaFinds_walk (v : Value) (s : Sch) (z q : Int) (w : World) (h : SchArg w v s) (hz : -9223372036854775808 ≤ z ∧ z ≤ 9223372036854775807) (hq : -9223372036854775808 ≤ q ∧ q ≤ 9223372036854775807) :
    Calls Try.prog 5 #[v, .int .i64 z, .int .i64 q] w fun e w' => e = .returned (.bool true) ∧ Below w.heap.size w w' := by
  obtain ⟨A, n, c, rfl, hs, hf, hky, hkd⟩ := h
  have hs0 := hs.alloc (Nat.le_refl _) (.cells #[.string s.name, .slice A n c, .int .i64 s.key, .bool s.only] 30)
  have b0 := Blk.new w [.string s.name, .slice A n c, .int .i64 s.key, .bool s.only] 30
  have t0 := (Turns.refl [] w).alloc (.cells #[.string s.name, .slice A n c, .int .i64 s.key, .bool s.only] 30)
  have KN := Lib.hid (fun W => known_any W)
  go_enter Try.func5, Try.ntmps5
  go_wp2_with fail
  refine (KN.out _).mono ?_
  rintro e w1 ⟨rfl, bel1⟩
  have t1 := t0.trans (Turns.of_below (L := []) bel1) (by simp)
  have b1 := b0.turns (Turns.of_below (L := []) bel1) (by simp)
  have s1 := hs0.below_le bel1 (by simp)
  have r1 := b1.range 0 4
  rw [List.drop_zero, List.take_of_length_le (by simp)] at r1
  have z1 := t1.size
  have FW := Lib.hid (Few_any s A n c _ w1 hf s1 z1)
  have GD := fun W hB => Good_any s A n c z w.heap.size W hz hf hky hkd hB
  have hsz : (Try.prog.info? 30).map (·.size) = some ([.string s.name, .slice A n c, .int .i64 s.key, .bool s.only] : List Value).length := by kernel_rfl
  have B1 := Lib.hid (And.intro b1 (And.intro t1 s1))
  clear hs hs0 b0 t0 bel1 b1 t1 s1 KN
  go_wp2_with (first
    | (refine wpList_load_mid rfl 30 (.tmp 3) rfl w.heap.size 0 rfl _ _ r1 Try.underlying30 rfl hsz ?_)
    | fail)
  refine FW.out.mono ?_
  rintro e w2 ⟨rfl, t2⟩
  have b2 := B1.out.1.turns t2 (by simp)
  have t02 := B1.out.2.1.trans t2 (by simp)
  have s2 := t2.slice B1.out.2.2 z1 (by simp)
  have r2 := b2.range 0 4
  rw [List.drop_zero, List.take_of_length_le (by simp)] at r2
  cases hfw : fewS s
  · have bel := t02.below (Nat.le_refl _) (by simp)
    clear b2 t02 s2 r2 GD
    go_wp2_with fail
    go_ret
    exact ⟨rfl, bel⟩
  · have GD' := Lib.hid (GD w2 s2 t02.size)
    have B2 := Lib.hid t02
    clear GD t2 b2 t02 s2 FW B1 r1
    go_wp2_with (first
      | (refine wpList_load_mid rfl 30 (.tmp 3) rfl w.heap.size 0 rfl _ _ r2 Try.underlying30 rfl hsz ?_)
      | fail)
    refine GD'.out.mono ?_
    rintro e w3 ⟨g, cg, rfl, own3, t3⟩
    have t03 := B2.out.trans t3 (by simp)
    have gl := goodL_le s
    have gp := goodL_pos s
    have hfi := fun k hk => good_find s z k hk
    have hzz := good_zz s z
    have hnm := fun k hk => goodS_name s z k hk
    have hgn := goodS_len s z
    have hgo : (goodS s z).only = s.only ∧ (goodS s z).key = (goodKey s : Nat) := ⟨rfl, rfl⟩
    generalize goodS s z = G at own3 hfi hzz hnm hgn hgo
    obtain ⟨k, hk⟩ : ∃ k : Nat, q % (goodL s : Int) = k := ⟨(q % (goodL s : Int)).toNat, by have := Int.emod_nonneg q (show (goodL s : Int) ≠ 0 by omega); omega⟩
    have hkl : k < goodL s := by have := Int.emod_lt_of_pos q (show (0 : Int) < (goodL s : Int) by omega); omega
    have WI := fun W => within_any q (goodL s) W hq.1 hq.2 (by omega) (by omega)
    rw [hk] at WI
    replace WI := Lib.hid WI
    clear hk
    have hkG : k < G.cols.length := by omega
    have hki : (k : Int) < (goodL s : Int) := by omega
    have hnk := hnm k hkG
    have hfk := hfi k hkG
    obtain ⟨w4, hw4⟩ : ∃ w4, w4 = w3.alloc (.cells #[.string G.name, .slice (some ⟨g, 0, none⟩) (goodL s) cg, .int .i64 (goodKey s : Nat), .bool s.only] 30) := ⟨_, rfl⟩
    have t04 := t03.alloc (.cells #[.string G.name, .slice (some ⟨g, 0, none⟩) (goodL s) cg, .int .i64 (goodKey s : Nat), .bool s.only] 30)
    have b4 := Blk.new w3 [.string G.name, .slice (some ⟨g, 0, none⟩) (goodL s) cg, .int .i64 (goodKey s : Nat), .bool s.only] 30
    have s4 := (Sl.of_own own3).alloc (Nat.le_refl _) (.cells #[.string G.name, .slice (some ⟨g, 0, none⟩) (goodL s) cg, .int .i64 (goodKey s : Nat), .bool s.only] 30)
    have hz4 : w3.heap.size ≤ w4.heap.size := by rw [hw4]; simp
    have hw4' := hw4
    rw [← hw4] at t04 s4
    rw [show w3.alloc (.cells [.string G.name, .slice (some ⟨g, 0, none⟩) (goodL s) cg, .int .i64 (goodKey s : Nat), .bool s.only].toArray 30) = w4 from hw4.symm] at b4
    have r4 := b4.range 0 4
    rw [List.drop_zero, List.take_of_length_le (by simp)] at r4
    have c1 : w4.cell? ⟨w3.heap.size, 1, none⟩ = some (.slice (some ⟨g, 0, none⟩) (goodL s) cg) := b4.cell 1
    have cn : w4.cell? ⟨g, k * 3, none⟩ = some (.string (strOf [byteOf (97 + k)])) := by
      obtain ⟨_, _, _, ee, _, _, _, hrd⟩ := s4
      injection ee with e1 _ e3
      obtain ⟨b, off, e4, _, hc⟩ := hrd (by intro e; have := congrArg List.length e; rw [colCells_length] at this; simp at this; omega)
      rw [← e1] at e4
      injection e4 with e4
      injection e4 with e5 e6
      have := hc (k * 3 + 0) (.string G.cols[k].name) (by rw [colCells_get G.cols k 0 hkG (by omega)]; rfl)
      rw [← e5, ← e6, hnk, Nat.zero_add, Nat.add_zero] at this
      exact this
    have sG : (G.only = s.only ∧ G.key = (goodKey s : Nat)) := hgo
    have hsz4 : (Try.prog.info? 30).map (·.size) = some ([.string G.name, .slice (some ⟨g, 0, none⟩) (goodL s) cg, .int .i64 (goodKey s : Nat), .bool s.only] : List Value).length := by kernel_rfl
    have FH := fun W hB => Find_hit G (some ⟨g, 0, none⟩) (goodL s) cg (strOf [byteOf (97 + k)]) w3.heap.size k W hfk hB
    have FM := fun W hB => Find_miss G (some ⟨g, 0, none⟩) (goodL s) cg ⟨#[122, 122]⟩ w3.heap.size W hzz hB
    rw [hgo.1, hgo.2] at FH FM
    have HW := Lib.hid hw4
    have HF := Lib.hid (And.intro FH FM)
    have H4 := Lib.hid (And.intro t04 (And.intro b4 s4))
    clear own3 hfi hzz hnm hgn t03 GD' r2 t3 hw4 hw4' t04 b4 s4 hnk hfk FH FM sG hgo
    go_wp2_with fail
    rw [← HW.out]
    refine (WI.out _).mono ?_
    rintro e ww ⟨rfl, rfl⟩
    go_wp2_with fail
    have hS0 : Turns [] w4 w4.drew := (Turns.refl _ _).drew
    have cn' := cn
    refine reg_begin (fun W => Turns [] w4 W) (fun _ => True) 13 13 #[false, false, false, false, false, false, false, false, false, false, false, false, false] (by kernel_rfl) (by kernel_rfl) (by kernel_rfl) ?_
    refine reg_take_y 0 26 12 #[true, false, false, false, false, false, false, false, false, false, false, false, false] (by rfl) rfl rfl (by kernel_rfl) (by kernel_rfl) (by kernel_rfl) (by kernel_rfl) (fun _ _ _ h => h) (yieldsIf_load_mid (by rfl) _ _ rfl w3.heap.size 0 (by rfl) _ _ (fun W hS => rangeT hS r4) Try.underlying30 rfl hsz4) (Till.mk' hS0 trivial) ?_
    try simp only [List.setIfInBounds_toArray, List.set_cons_succ, List.set_cons_zero]
    refine reg_take 1 27 11 #[true, true, false, false, false, false, false, false, false, false, false, false, false] (by rfl) (v := ?_) rfl rfl (by kernel_rfl) (by kernel_rfl) (by kernel_rfl) (by kernel_rfl) (fun _ _ _ h => h) (by rfl) ?_ (Till.mk' hS0 trivial) ?_
    rotate_left
    · intro W hS; go_simp; all_goals with_reducible rfl
    try simp only [List.setIfInBounds_toArray, List.set_cons_succ, List.set_cons_zero]
    refine reg_take 2 28 10 #[true, true, true, false, false, false, false, false, false, false, false, false, false] (by rfl) (v := ?_) rfl rfl (by kernel_rfl) (by kernel_rfl) (by kernel_rfl) (by kernel_rfl) (fun _ _ _ h => h) (by rfl) ?_ (Till.mk' hS0 trivial) ?_
    rotate_left
    · intro W hS; have c2 := cellT hS c1; go_simp; all_goals with_reducible rfl
    try simp only [List.setIfInBounds_toArray, List.set_cons_succ, List.set_cons_zero]
    refine reg_take 3 29 9 #[true, true, true, true, false, false, false, false, false, false, false, false, false] (by rfl) (v := ?_) rfl rfl (by kernel_rfl) (by kernel_rfl) (by kernel_rfl) (by kernel_rfl) (fun _ _ _ h => h) (by rfl) ?_ (Till.mk' hS0 trivial) ?_
    rotate_left
    · intro W hS; go_simp; all_goals with_reducible rfl
    try simp only [List.setIfInBounds_toArray, List.set_cons_succ, List.set_cons_zero]
    refine reg_take 4 30 8 #[true, true, true, true, true, false, false, false, false, false, false, false, false] (by rfl) (v := ?_) rfl rfl (by kernel_rfl) (by kernel_rfl) (by kernel_rfl) (by kernel_rfl) (fun _ _ _ h => h) (by rfl) ?_ (Till.mk' hS0 trivial) ?_
    rotate_left
    · intro W hS; go_simp; all_goals with_reducible rfl
    try simp only [List.setIfInBounds_toArray, List.set_cons_succ, List.set_cons_zero]
    refine reg_take 5 31 7 #[true, true, true, true, true, true, false, false, false, false, false, false, false] (by rfl) (v := ?_) rfl rfl (by kernel_rfl) (by kernel_rfl) (by kernel_rfl) (by kernel_rfl) (fun _ _ _ h => h) (by rfl) ?_ (Till.mk' hS0 trivial) ?_
    rotate_left
    · intro W hS; go_simp; all_goals with_reducible rfl
    try simp only [List.setIfInBounds_toArray, List.set_cons_succ, List.set_cons_zero]
    refine reg_take 6 32 6 #[true, true, true, true, true, true, true, false, false, false, false, false, false] (by rfl) (v := ?_) rfl rfl (by kernel_rfl) (by kernel_rfl) (by kernel_rfl) (by kernel_rfl) (fun _ _ _ h => h) (by rfl) ?_ (Till.mk' hS0 trivial) ?_
    rotate_left
    · intro W hS; have c2 := cellT hS cn; go_simp; all_goals with_reducible rfl
    try simp only [List.setIfInBounds_toArray, List.set_cons_succ, List.set_cons_zero]
    refine reg_one 7 5 #[true, true, true, true, true, true, true, true, false, false, false, false, false] (by kernel_rfl) rfl (by rfl) (by kernel_rfl) (fun K hK => ?_)
    go_simp
    refine (HF.out.1 _ (by exact hS0.slice H4.out.2.2 hz4 (by simp)) (Nat.le_trans hz4 hS0.size)).mono ?_
    rintro e w5 ⟨rfl, t5⟩
    have hS5 := hS0.trans t5 (by simp)
    refine hK _ _ (Till.mk' hS5 trivial) ?_
    clear hK K
    try simp only [List.setIfInBounds_toArray, List.set_cons_succ, List.set_cons_zero]
    refine reg_take 8 25 4 #[true, true, true, true, true, true, true, true, true, false, false, false, false] (by rfl) (v := ?_) rfl rfl (by kernel_rfl) (by kernel_rfl) (by kernel_rfl) (by kernel_rfl) (fun _ _ _ h => h) (by rfl) ?_ (Till.mk' hS5 trivial) ?_
    rotate_left
    · intro W hS; go_simp; all_goals with_reducible rfl
    try simp only [List.setIfInBounds_toArray, List.set_cons_succ, List.set_cons_zero]
    refine reg_take 9 34 3 #[true, true, true, true, true, true, true, true, true, true, false, false, false] (by rfl) (v := ?_) rfl rfl (by kernel_rfl) (by kernel_rfl) (by kernel_rfl) (by kernel_rfl) (fun _ _ _ h => h) (by rfl) ?_ (Till.mk' hS5 trivial) ?_
    rotate_left
    · intro W hS; go_simp; all_goals with_reducible rfl
    try simp only [List.setIfInBounds_toArray, List.set_cons_succ, List.set_cons_zero]
    refine reg_take 10 35 2 #[true, true, true, true, true, true, true, true, true, true, true, false, false] (by rfl) (v := ?_) rfl rfl (by kernel_rfl) (by kernel_rfl) (by kernel_rfl) (by kernel_rfl) (fun _ _ _ h => h) (by rfl) ?_ (Till.mk' hS5 trivial) ?_
    rotate_left
    · intro W hS; go_simp; all_goals with_reducible rfl
    try simp only [List.setIfInBounds_toArray, List.set_cons_succ, List.set_cons_zero]
    refine reg_take 11 8 1 #[true, true, true, true, true, true, true, true, true, true, true, true, false] (by rfl) (v := ?_) rfl rfl (by kernel_rfl) (by kernel_rfl) (by kernel_rfl) (by kernel_rfl) (fun _ _ _ h => h) (by rfl) ?_ (Till.mk' hS5 trivial) ?_
    rotate_left
    · intro W hS; go_simp; all_goals with_reducible rfl
    try simp only [List.setIfInBounds_toArray, List.set_cons_succ, List.set_cons_zero]
    refine reg_take 12 9 0 #[true, true, true, true, true, true, true, true, true, true, true, true, true] (by rfl) (v := ?_) rfl rfl (by kernel_rfl) (by kernel_rfl) (by kernel_rfl) (by kernel_rfl) (fun _ _ _ h => h) (by rfl) ?_ (Till.mk' hS5 trivial) ?_
    rotate_left
    · intro W hS; go_simp; all_goals with_reducible rfl
    try simp only [List.setIfInBounds_toArray, List.set_cons_succ, List.set_cons_zero]
    refine reg_done (by kernel_rfl) ?_ _
    have hr5 := rangeT hS5 r4
    have F2 := Lib.hid (HF.out.2 w5 (by exact hS5.slice H4.out.2.2 hz4 (by simp)) (Nat.le_trans hz4 hS5.size))
    have T5 := H4.out.1.trans hS5 (by simp)
    clear hS0 hS5 t5 HF H4 r4 c1 cn cn'
    go_wp2_with (first
      | (refine wpList_load_mid rfl 30 (.tmp 7) rfl w3.heap.size 0 rfl _ _ hr5 Try.underlying30 rfl hsz4 ?_)
      | fail)
    refine F2.out.mono ?_
    rintro e w6 ⟨rfl, t6⟩
    have bel := (T5.trans t6 (by simp)).below (Nat.le_refl _) (by simp)
    clear T5 t6 F2
    go_wp2_with fail
    go_ret
    exact ⟨rfl, bel⟩
end Go.Proofs.Ytdllgnccjejhiaa
