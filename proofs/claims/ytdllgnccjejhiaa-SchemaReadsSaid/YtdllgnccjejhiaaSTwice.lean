/- The law SchemaTwice, walked. -/
import Derived.Test.YtdllgnccjejhiaaGLaw
import Derived.Test.YtdllgnccjejhiaaGrd
namespace Go.Proofs.Ytdllgnccjejhiaa
open Go.RowKit
set_option linter.unusedVariables false
set_option maxRecDepth 10000
set_option linter.unusedSimpArgs false
set_option linter.unnecessarySimpa false

theorem goodS_fits (s : Sch) (z : Int) : ∀ (k : Nat) (hk : k < (goodS s z).cols.length), (goodS s z).cols[k].name.size = 1 := by
  intro k hk
  rw [goodS_name s z k hk]; rfl
theorem goodS_name_size (s : Sch) (z : Int) : (goodS s z).name.size = 2 := by
  show ((⟨#[113]⟩ : ByteArray) ++ strOf [byteOf (97 + (z % 26).toNat)]).size = 2
  rw [ByteArray.size_append]; rfl
theorem goodS_fits2 (s : Sch) (z : Int) : ∀ (a b : Nat) (ha : a < (goodS s z).cols.length) (hb : b < (goodS s z).cols.length), (⟨(goodS s z).name, (goodS s z).cols.set a (ren (goodS s z).cols[a] (goodS s z).cols[b].name), (goodS s z).key, (goodS s z).only⟩ : Sch).fits := by
  intro a b ha hb
  refine ⟨?_, fun c hc => ?_⟩
  · show (goodS s z).name.size ≤ _
    rw [goodS_name_size]; omega
  · obtain ⟨j, hj, rfl⟩ := List.mem_iff_getElem.1 hc
    rw [List.length_set] at hj
    rw [List.getElem_set]
    split
    · show (goodS s z).cols[b].name.size ≤ _
      rw [goodS_fits]; omega
    · rw [goodS_fits]; omega

set_option maxRecDepth 100000 in
set_option maxHeartbeats 2000000 in
theorem SchemaTwice_walk (v : Value) (s : Sch) (z a b : Int) (w : World) (h : SchArg w v s) (hz : -9223372036854775808 ≤ z ∧ z ≤ 9223372036854775807) (ha : -9223372036854775808 ≤ a ∧ a ≤ 9223372036854775807) (hb : -9223372036854775808 ≤ b ∧ b ≤ 9223372036854775807) :
    Calls Try.prog 6 #[v, .int .i64 z, .int .i64 a, .int .i64 b] w fun e w' => e = .returned (.bool true) ∧ Below w.heap.size w w' := by
  obtain ⟨A, n, c, rfl, hs, hf, hky, hkd⟩ := h
  have hs0 := hs.alloc (Nat.le_refl _) (.cells #[.string s.name, .slice A n c, .int .i64 s.key, .bool s.only] 30)
  have b0 := Blk.new w [.string s.name, .slice A n c, .int .i64 s.key, .bool s.only] 30
  have t0 := (Turns.refl [] w).alloc (.cells #[.string s.name, .slice A n c, .int .i64 s.key, .bool s.only] 30)
  have KN := Lib.hid (fun W => known_any W)
  go_enter Try.func6, Try.ntmps6
  go_wp2_with fail
  refine (KN.out _).mono ?_
  rintro e w1 ⟨rfl, bel1⟩
  have t1 := t0.trans (Turns.of_below (L := []) bel1) (by simp)
  have b1 := b0.turns (Turns.of_below (L := []) bel1) (by simp)
  have s1 := hs0.below_le bel1 (by simp)
  have r1 := b1.range 0 4
  rw [List.drop_zero, List.take_of_length_le (by simp)] at r1
  have z1 := t1.size
  have FW := Lib.hid (Few_any s A n c _ w1 hf s1 z1)
  have GD := fun W hB => Good_any s A n c z w.heap.size W hz hf hky hkd hB
  have hsz : (Try.prog.info? 30).map (·.size) = some ([.string s.name, .slice A n c, .int .i64 s.key, .bool s.only] : List Value).length := by kernel_rfl
  have B1 := Lib.hid (And.intro b1 (And.intro t1 s1))
  clear hs hs0 b0 t0 bel1 b1 t1 s1 KN
  go_wp2_with (first
    | (refine wpList_load_mid rfl 30 (.tmp 4) rfl w.heap.size 0 rfl _ _ r1 Try.underlying30 rfl hsz ?_)
    | fail)
  refine FW.out.mono ?_
  rintro e w2 ⟨rfl, t2⟩
  have b2 := B1.out.1.turns t2 (by simp)
  have t02 := B1.out.2.1.trans t2 (by simp)
  have s2 := t2.slice B1.out.2.2 z1 (by simp)
  have r2 := b2.range 0 4
  rw [List.drop_zero, List.take_of_length_le (by simp)] at r2
  cases hfw : fewS s
  · have bel := t02.below (Nat.le_refl _) (by simp)
    clear b2 t02 s2 r2 GD
    go_wp2_with fail
    go_ret
    exact ⟨rfl, bel⟩
  have GD' := Lib.hid (GD w2 s2 t02.size)
  have B2 := Lib.hid t02
  clear GD t2 b2 t02 s2 FW B1 r1
  go_wp2_with (first
    | (refine wpList_load_mid rfl 30 (.tmp 4) rfl w.heap.size 0 rfl _ _ r2 Try.underlying30 rfl hsz ?_)
    | fail)
  refine GD'.out.mono ?_
  rintro e w3 ⟨g, cg, rfl, own3, t3⟩
  have t03 := B2.out.trans t3 (by simp)
  have gl := goodL_le s
  have gp := goodL_pos s
  have gk := goodKey_lt s
  have hcols := goodS_goodC s z
  have htw := goodS_twice s z
  have hfit := goodS_fits2 s z
  have hgn := goodS_len s z
  have hgo : (goodS s z).only = s.only ∧ (goodS s z).key = (goodKey s : Nat) := ⟨rfl, rfl⟩
  generalize goodS s z = G at own3 hgn hgo hcols htw hfit
  obtain ⟨w4, hw4⟩ : ∃ w4, w4 = w3.alloc (.cells #[.string G.name, .slice (some ⟨g, 0, none⟩) (goodL s) cg, .int .i64 (goodKey s : Nat), .bool s.only] 30) := ⟨_, rfl⟩
  have t04 := t03.alloc (.cells #[.string G.name, .slice (some ⟨g, 0, none⟩) (goodL s) cg, .int .i64 (goodKey s : Nat), .bool s.only] 30)
  have b4 := Blk.new w3 [.string G.name, .slice (some ⟨g, 0, none⟩) (goodL s) cg, .int .i64 (goodKey s : Nat), .bool s.only] 30
  have own4 := own3.alloc (.cells #[.string G.name, .slice (some ⟨g, 0, none⟩) (goodL s) cg, .int .i64 (goodKey s : Nat), .bool s.only] 30)
  have own3lt := (own3.lt g rfl).2
  have hz4 : w3.heap.size ≤ w4.heap.size := by rw [hw4]; simp
  have hz3 := t3.size
  rw [← hw4] at t04 own4
  rw [show w3.alloc (.cells [.string G.name, .slice (some ⟨g, 0, none⟩) (goodL s) cg, .int .i64 (goodKey s : Nat), .bool s.only].toArray 30) = w4 from hw4.symm] at b4
  have s4 := Sl.of_own own4
  have c1 : w4.cell? ⟨w3.heap.size, 1, none⟩ = some (.slice (some ⟨g, 0, none⟩) (goodL s) cg) := b4.cell 1
  have HW := Lib.hid hw4
  clear hw4 own3 t03 GD' r2 t3
  obtain ⟨ja, hja'⟩ : ∃ k : Nat, a % (goodL s : Int) = k := ⟨(a % (goodL s : Int)).toNat, by have := Int.emod_nonneg a (show (goodL s : Int) ≠ 0 by omega); omega⟩
  obtain ⟨jb, hjb'⟩ : ∃ k : Nat, b % (goodL s : Int) = k := ⟨(b % (goodL s : Int)).toNat, by have := Int.emod_nonneg b (show (goodL s : Int) ≠ 0 by omega); omega⟩
  have hja : ja < G.cols.length := by have := Int.emod_lt_of_pos a (show (0 : Int) < (goodL s : Int) by omega); omega
  have hjb : jb < G.cols.length := by have := Int.emod_lt_of_pos b (show (0 : Int) < (goodL s : Int) by omega); omega
  have WA := fun W => within_any a (goodL s) W ha.1 ha.2 (by omega) (by omega)
  have WB := fun W => within_any b (goodL s) W hb.1 hb.2 (by omega) (by omega)
  rw [hja'] at WA
  rw [hjb'] at WB
  replace WA := Lib.hid WA
  replace WB := Lib.hid WB
  clear hja' hjb'
  have ca : w4.cell? ⟨g, ja * 3, none⟩ = some (.string G.cols[ja].name) := by
    obtain ⟨_, _, _, ee, _, _, _, hrd⟩ := s4
    injection ee with e1 _ e3
    obtain ⟨b', off', e4, _, hc⟩ := hrd (by intro e; have := congrArg List.length e; rw [colCells_length] at this; simp at this; omega)
    rw [← e1] at e4
    injection e4 with e4
    injection e4 with e5 e6
    have := hc (ja * 3 + 0) (.string G.cols[ja].name) (by rw [colCells_get G.cols ja 0 hja (by omega)]; rfl)
    rw [← e5, ← e6, Nat.zero_add] at this
    exact this
  have cn : w4.cell? ⟨g, jb * 3, none⟩ = some (.string G.cols[jb].name) := by
    obtain ⟨_, _, _, ee, _, _, _, hrd⟩ := s4
    injection ee with e1 _ e3
    obtain ⟨b', off', e4, _, hc⟩ := hrd (by intro e; have := congrArg List.length e; rw [colCells_length] at this; simp at this; omega)
    rw [← e1] at e4
    injection e4 with e4
    injection e4 with e5 e6
    have := hc (jb * 3 + 0) (.string G.cols[jb].name) (by rw [colCells_get G.cols jb 0 hjb (by omega)]; rfl)
    rw [← e5, ← e6, Nat.zero_add] at this
    exact this
  have hai : (ja : Int) < (goodL s : Int) := by omega
  have hbi : (jb : Int) < (goodL s : Int) := by omega
  have fa := own4.frozenAt (ja * 3)
  have hgg := (own4.lt g rfl).1
  have hng : g ≠ w3.heap.size := by
    have := own4.lt g rfl
    intro e
    have h3 := own3lt
    omega
  obtain ⟨w5, hw5⟩ : ∃ w5, w5 = (w4.setCell ⟨g, ja * 3, none⟩ (.string G.cols[jb].name)).drew.drew := ⟨_, rfl⟩
  have own5 := (own4.stored (ja * 3) (.string G.cols[jb].name)).1.drew.drew
  have t05 := ((t04.setCell (p := ⟨g, ja * 3, none⟩) (.inr (by have := B2.out.size; simp; omega)) (.string G.cols[jb].name)).drew).drew
  have b5 := ((b4.other (p := ⟨g, ja * 3, none⟩) hng (.string G.cols[jb].name)).drew).drew
  rw [← hw5] at own5 t05 b5
  rw [colCells_ren _ _ hja] at own5
  have r5 := b5.range 0 4
  rw [List.drop_zero, List.take_of_length_le (by simp)] at r5
  have hsz4 : (Try.prog.info? 30).map (·.size) = some ([.string G.name, .slice (some ⟨g, 0, none⟩) (goodL s) cg, .int .i64 (goodKey s : Nat), .bool s.only] : List Value).length := by kernel_rfl
  have CK := fun (W : World) (hB : Sl W w5.heap.size 3 (.slice (some ⟨g, 0, none⟩) (goodL s) cg) (goodL s) (colCells (G.cols.set ja (ren G.cols[ja] G.cols[jb].name)))) => Check_any ⟨G.name, G.cols.set ja (ren G.cols[ja] G.cols[jb].name), G.key, G.only⟩ (some ⟨g, 0, none⟩) (goodL s) cg w5.heap.size W (hfit ja jb hja hjb) hB
  rw [htw ja jb hja hjb] at CK
  simp only [hgo.1, hgo.2] at CK
  have H5 := Lib.hid (And.intro (Sl.of_own own5) (And.intro t05 b5))
  have HC := Lib.hid CK
  have HW5 := Lib.hid hw5
  clear hfit htw CK own5 t05 b5 t04 b4 s4 hw5 hgo hcols own4
  have hS0 : Turns [] w4 w4.drew := (Turns.refl _ _).drew
  go_wp2_with fail
  rw [← HW.out]
  refine reg_begin (fun W => Turns [] w4 W) (fun _ => True) 12 12 #[false, false, false, false, false, false, false, false, false, false, false, false] (by kernel_rfl) (by kernel_rfl) (by kernel_rfl) ?_
  refine reg_take 0 18 11 #[true, false, false, false, false, false, false, false, false, false, false, false] (by rfl) (v := ?_) rfl rfl (by kernel_rfl) (by kernel_rfl) (by kernel_rfl) (by kernel_rfl) (fun _ _ _ h => h) (by rfl) ?_ (Till.mk' hS0 trivial) ?_
  rotate_left
  · intro W hS; go_simp; all_goals with_reducible rfl
  try simp only [List.setIfInBounds_toArray, List.set_cons_succ, List.set_cons_zero]
  refine reg_take 1 19 10 #[true, true, false, false, false, false, false, false, false, false, false, false] (by rfl) (v := ?_) rfl rfl (by kernel_rfl) (by kernel_rfl) (by kernel_rfl) (by kernel_rfl) (fun _ _ _ h => h) (by rfl) ?_ (Till.mk' hS0 trivial) ?_
  rotate_left
  · intro W hS; go_simp; all_goals with_reducible rfl
  try simp only [List.setIfInBounds_toArray, List.set_cons_succ, List.set_cons_zero]
  refine reg_take 2 20 9 #[true, true, true, false, false, false, false, false, false, false, false, false] (by rfl) (v := ?_) rfl rfl (by kernel_rfl) (by kernel_rfl) (by kernel_rfl) (by kernel_rfl) (fun _ _ _ h => h) (by rfl) ?_ (Till.mk' hS0 trivial) ?_
  rotate_left
  · intro W hS; have c2 := cellT hS c1; go_simp; all_goals with_reducible rfl
  try simp only [List.setIfInBounds_toArray, List.set_cons_succ, List.set_cons_zero]
  refine reg_take 3 21 8 #[true, true, true, true, false, false, false, false, false, false, false, false] (by rfl) (v := ?_) rfl rfl (by kernel_rfl) (by kernel_rfl) (by kernel_rfl) (by kernel_rfl) (fun _ _ _ h => h) (by rfl) ?_ (Till.mk' hS0 trivial) ?_
  rotate_left
  · intro W hS; go_simp; all_goals with_reducible rfl
  try simp only [List.setIfInBounds_toArray, List.set_cons_succ, List.set_cons_zero]
  refine reg_take 5 23 7 #[true, true, true, true, false, true, false, false, false, false, false, false] (by rfl) (v := ?_) rfl rfl (by kernel_rfl) (by kernel_rfl) (by kernel_rfl) (by kernel_rfl) (fun _ _ _ h => h) (by rfl) ?_ (Till.mk' hS0 trivial) ?_
  rotate_left
  · intro W hS; go_simp; all_goals with_reducible rfl
  try simp only [List.setIfInBounds_toArray, List.set_cons_succ, List.set_cons_zero]
  refine reg_take 6 24 6 #[true, true, true, true, false, true, true, false, false, false, false, false] (by rfl) (v := ?_) rfl rfl (by kernel_rfl) (by kernel_rfl) (by kernel_rfl) (by kernel_rfl) (fun _ _ _ h => h) (by rfl) ?_ (Till.mk' hS0 trivial) ?_
  rotate_left
  · intro W hS; go_simp; all_goals with_reducible rfl
  try simp only [List.setIfInBounds_toArray, List.set_cons_succ, List.set_cons_zero]
  refine reg_take 7 25 5 #[true, true, true, true, false, true, true, true, false, false, false, false] (by rfl) (v := ?_) rfl rfl (by kernel_rfl) (by kernel_rfl) (by kernel_rfl) (by kernel_rfl) (fun _ _ _ h => h) (by rfl) ?_ (Till.mk' hS0 trivial) ?_
  rotate_left
  · intro W hS; have c2 := cellT hS c1; go_simp; all_goals with_reducible rfl
  try simp only [List.setIfInBounds_toArray, List.set_cons_succ, List.set_cons_zero]
  refine reg_take 8 26 4 #[true, true, true, true, false, true, true, true, true, false, false, false] (by rfl) (v := ?_) rfl rfl (by kernel_rfl) (by kernel_rfl) (by kernel_rfl) (by kernel_rfl) (fun _ _ _ h => h) (by rfl) ?_ (Till.mk' hS0 trivial) ?_
  rotate_left
  · intro W hS; go_simp; all_goals with_reducible rfl
  try simp only [List.setIfInBounds_toArray, List.set_cons_succ, List.set_cons_zero]
  refine reg_one 4 3 #[true, true, true, true, true, true, true, true, true, false, false, false] (by kernel_rfl) rfl (by rfl) (by kernel_rfl) (fun K hK => ?_)
  go_simp
  refine (WA.out _).mono ?_
  rintro e ww ⟨rfl, rfl⟩
  refine hK _ _ (Till.mk' hS0 trivial) ?_
  clear hK K
  try simp only [List.setIfInBounds_toArray, List.set_cons_succ, List.set_cons_zero]
  refine reg_one 9 2 #[true, true, true, true, true, true, true, true, true, true, false, false] (by kernel_rfl) rfl (by rfl) (by kernel_rfl) (fun K hK => ?_)
  go_simp
  refine (WB.out _).mono ?_
  rintro e ww ⟨rfl, rfl⟩
  refine hK _ _ (Till.mk' hS0 trivial) ?_
  clear hK K
  try simp only [List.setIfInBounds_toArray, List.set_cons_succ, List.set_cons_zero]
  refine reg_take 10 2 1 #[true, true, true, true, true, true, true, true, true, true, true, false] (by rfl) (v := ?_) rfl rfl (by kernel_rfl) (by kernel_rfl) (by kernel_rfl) (by kernel_rfl) (fun _ _ _ h => h) (by rfl) ?_ (Till.mk' hS0 trivial) ?_
  rotate_left
  · intro W hS; go_simp; all_goals with_reducible rfl
  try simp only [List.setIfInBounds_toArray, List.set_cons_succ, List.set_cons_zero]
  refine reg_take 11 3 0 #[true, true, true, true, true, true, true, true, true, true, true, true] (by rfl) (v := ?_) rfl rfl (by kernel_rfl) (by kernel_rfl) (by kernel_rfl) (by kernel_rfl) (fun _ _ _ h => h) (by rfl) ?_ (Till.mk' hS0 trivial) ?_
  rotate_left
  · intro W hS; go_simp; all_goals with_reducible rfl
  try simp only [List.setIfInBounds_toArray, List.set_cons_succ, List.set_cons_zero]
  refine reg_done (by kernel_rfl) ?_ _
  all_goals
    have hS1 : Turns [] w4 w4.drew.drew := hS0.drew
    clear hS0
    go_wp2_with fail
    refine reg_begin (fun _ => True) (fun W => Turns [] w4 W) 11 12 #[false, false, false, false, false, false, false, false, false, false, false, false] (by kernel_rfl) (by kernel_rfl) (by kernel_rfl) ?_
    refine reg_take 0 28 11 #[true, false, false, false, false, false, false, false, false, false, false, false] (by rfl) (v := ?_) rfl rfl (by kernel_rfl) (by kernel_rfl) (by kernel_rfl) (by kernel_rfl) (fun _ _ _ h => h) (by rfl) ?_ (Till.mk' trivial hS1) ?_
    rotate_left
    · intro W hS; go_simp; all_goals with_reducible rfl
    try simp only [List.setIfInBounds_toArray, List.set_cons_succ, List.set_cons_zero]
    refine reg_take_t 1 29 10 #[true, true, false, false, false, false, false, false, false, false, false, false] (by rfl) (v := ?_) rfl rfl (by kernel_rfl) (by kernel_rfl) (by kernel_rfl) (by kernel_rfl) (fun _ _ _ h => h) (by rfl) (by kernel_rfl) (by kernel_rfl) ?_ (Till.mk' trivial hS1) ?_
    rotate_left
    · rintro W ⟨-, hS⟩; have c2 := cellT hS c1; go_simp; all_goals with_reducible rfl
    try simp only [List.setIfInBounds_toArray, List.set_cons_succ, List.set_cons_zero]
    refine reg_take 2 30 9 #[true, true, true, false, false, false, false, false, false, false, false, false] (by rfl) (v := ?_) rfl rfl (by kernel_rfl) (by kernel_rfl) (by kernel_rfl) (by kernel_rfl) (fun _ _ _ h => h) (by rfl) ?_ (Till.mk' trivial hS1) ?_
    rotate_left
    · intro W hS; go_simp; all_goals with_reducible rfl
    try simp only [List.setIfInBounds_toArray, List.set_cons_succ, List.set_cons_zero]
    refine reg_take 3 31 8 #[true, true, true, true, false, false, false, false, false, false, false, false] (by rfl) (v := ?_) rfl rfl (by kernel_rfl) (by kernel_rfl) (by kernel_rfl) (by kernel_rfl) (fun _ _ _ h => h) (by rfl) ?_ (Till.mk' trivial hS1) ?_
    rotate_left
    · intro W hS; go_simp; all_goals with_reducible rfl
    try simp only [List.setIfInBounds_toArray, List.set_cons_succ, List.set_cons_zero]
    refine reg_take_t 4 32 7 #[true, true, true, true, true, false, false, false, false, false, false, false] (by rfl) (v := ?_) rfl rfl (by kernel_rfl) (by kernel_rfl) (by kernel_rfl) (by kernel_rfl) (fun _ _ _ h => h) (by rfl) (by kernel_rfl) (by kernel_rfl) ?_ (Till.mk' trivial hS1) ?_
    rotate_left
    · rintro W ⟨-, hS⟩; have c2 := cellT hS c1; go_simp; all_goals with_reducible rfl
    try simp only [List.setIfInBounds_toArray, List.set_cons_succ, List.set_cons_zero]
    refine reg_take 5 33 6 #[true, true, true, true, true, true, false, false, false, false, false, false] (by rfl) (v := ?_) rfl rfl (by kernel_rfl) (by kernel_rfl) (by kernel_rfl) (by kernel_rfl) (fun _ _ _ h => h) (by rfl) ?_ (Till.mk' trivial hS1) ?_
    rotate_left
    · intro W hS; go_simp; all_goals with_reducible rfl
    try simp only [List.setIfInBounds_toArray, List.set_cons_succ, List.set_cons_zero]
    refine reg_take 6 34 5 #[true, true, true, true, true, true, true, false, false, false, false, false] (by rfl) (v := ?_) rfl rfl (by kernel_rfl) (by kernel_rfl) (by kernel_rfl) (by kernel_rfl) (fun _ _ _ h => h) (by rfl) ?_ (Till.mk' trivial hS1) ?_
    rotate_left
    · intro W hS; go_simp; all_goals with_reducible rfl
    try simp only [List.setIfInBounds_toArray, List.set_cons_succ, List.set_cons_zero]
    refine reg_take 7 35 4 #[true, true, true, true, true, true, true, true, false, false, false, false] (by rfl) (v := ?_) rfl rfl (by kernel_rfl) (by kernel_rfl) (by kernel_rfl) (by kernel_rfl) (fun _ _ _ h => h) (by rfl) ?_ (Till.mk' trivial hS1) ?_
    rotate_left
    · intro W hS; go_simp; all_goals with_reducible rfl
    try simp only [List.setIfInBounds_toArray, List.set_cons_succ, List.set_cons_zero]
    refine reg_take_t 8 36 3 #[true, true, true, true, true, true, true, true, true, false, false, false] (by rfl) (v := ?_) rfl rfl (by kernel_rfl) (by kernel_rfl) (by kernel_rfl) (by kernel_rfl) (fun _ _ _ h => h) (by rfl) (by kernel_rfl) (by kernel_rfl) ?_ (Till.mk' trivial hS1) ?_
    rotate_left
    · rintro W ⟨-, hS⟩; have c2 := cellT hS cn; go_simp; all_goals with_reducible rfl
    try simp only [List.setIfInBounds_toArray, List.set_cons_succ, List.set_cons_zero]
    refine reg_take 9 37 2 #[true, true, true, true, true, true, true, true, true, true, false, false] (by rfl) (v := ?_) rfl rfl (by kernel_rfl) (by kernel_rfl) (by kernel_rfl) (by kernel_rfl) (fun _ _ _ h => h) (by rfl) ?_ (Till.mk' trivial hS1) ?_
    rotate_left
    · intro W hS; go_simp; all_goals with_reducible rfl
    try simp only [List.setIfInBounds_toArray, List.set_cons_succ, List.set_cons_zero]
    refine reg_take 10 38 1 #[true, true, true, true, true, true, true, true, true, true, true, false] (by rfl) (v := ?_) rfl rfl (by kernel_rfl) (by kernel_rfl) (by kernel_rfl) (by kernel_rfl) (fun _ _ _ h => h) (by rfl) ?_ (Till.mk' trivial hS1) ?_
    rotate_left
    · intro W hS; go_simp; all_goals with_reducible rfl
    try simp only [List.setIfInBounds_toArray, List.set_cons_succ, List.set_cons_zero]
    refine reg_one 11 0 #[true, true, true, true, true, true, true, true, true, true, true, true] (by kernel_rfl) rfl (by rfl) (by kernel_rfl) (fun K hK => ?_)
    go_simp
    refine hK _ _ (Till.past trivial (by kernel_rfl)) ?_
    clear hK K
    try simp only [List.setIfInBounds_toArray, List.set_cons_succ, List.set_cons_zero]
    refine reg_done (by kernel_rfl) ?_ _
    rw [← HW5.out]
    by_cases hab : ja = jb
    · subst hab
      rw [if_pos rfl] at HC
      go_wp2_with (first
        | (refine wpList_load_mid rfl 30 (.tmp 9) rfl w3.heap.size 0 rfl _ _ r5 Try.underlying30 rfl hsz4 ?_)
        | fail)
      refine (HC.out _ H5.out.1 (Nat.le_refl _)).mono ?_
      rintro e w6 ⟨rfl, t6⟩
      have bel := (H5.out.2.1.trans t6 (by simp)).below (Nat.le_refl _) (by simp)
      clear t6
      go_wp2_with fail
      go_ret
      exact ⟨rfl, bel⟩
    · have hx : ((ja : Int) == (jb : Int)) = false := by simp; omega
      rw [if_neg hab] at HC
      go_wp2_with (first
        | (refine wpList_load_mid rfl 30 (.tmp 9) rfl w3.heap.size 0 rfl _ _ r5 Try.underlying30 rfl hsz4 ?_)
        | fail)
      refine (HC.out _ H5.out.1 (Nat.le_refl _)).mono ?_
      rintro e w6 ⟨rfl, t6⟩
      have r6 := rangeT t6 r5
      have t06 := H5.out.2.1.trans t6 (by simp)
      have C2 := Lib.hid (HC.out w6 (by exact t6.slice H5.out.1 (Nat.le_refl _) (by simp)) t6.size)
      clear t6 r5
      go_wp2_with (first
        | (refine wpList_load_g (by rfl) 30 (.tmp 9) rfl w3.heap.size 0 rfl _ _ r6 Try.underlying30 rfl hsz4 ?_)
        | fail)
      refine C2.out.mono ?_
      rintro e w7 ⟨rfl, t7⟩
      have bel := (t06.trans t7 (by simp)).below (Nat.le_refl _) (by simp)
      clear t7 t06
      go_wp2_with fail
      go_ret
      exact ⟨rfl, bel⟩
end Go.Proofs.Ytdllgnccjejhiaa
