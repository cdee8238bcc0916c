/- The law SchemaChecks, walked. -/
import Derived.Test.YtdllgnccjejhiaaSSames
import Derived.Test.YtdllgnccjejhiaaRCk
namespace Go.Proofs.Ytdllgnccjejhiaa
open Go.RowKit
set_option linter.unusedVariables false
set_option maxRecDepth 10000
set_option linter.unusedSimpArgs false
set_option linter.unnecessarySimpa false

set_option maxRecDepth 100000 in
set_option maxHeartbeats 4000000 in
theorem SchemaChecks_walk (v : Value) (s : Sch) (z q : Int) (t : ByteArray) (w : World) (h : SchArg w v s) (hz : -9223372036854775808 ≤ z ∧ z ≤ 9223372036854775807) (hq : -9223372036854775808 ≤ q ∧ q ≤ 9223372036854775807) (ht : t.size ≤ maxLen) :
    Calls Try.prog 8 #[v, .int .i64 z, .int .i64 q, .string t] w fun e w' => e = .returned (.bool true) ∧ Below w.heap.size w w' := by
  unfold maxLen at ht
  obtain ⟨A, n, c, rfl, hs, hf, hky, hkd⟩ := h
  have hs0 := hs.alloc (Nat.le_refl _) (.cells #[.string s.name, .slice A n c, .int .i64 s.key, .bool s.only] 30)
  have b0 := Blk.new w [.string s.name, .slice A n c, .int .i64 s.key, .bool s.only] 30
  have t0 := (Turns.refl [] w).alloc (.cells #[.string s.name, .slice A n c, .int .i64 s.key, .bool s.only] 30)
  have KN := Lib.hid (fun W => known_any W)
  go_enter Try.func8, Try.ntmps8
  go_wp2_with fail
  refine (KN.out _).mono ?_
  rintro e w1 ⟨rfl, bel1⟩
  have t1 := t0.trans (Turns.of_below (L := []) bel1) (by simp)
  have b1 := b0.turns (Turns.of_below (L := []) bel1) (by simp)
  have s1 := hs0.below_le bel1 (by simp)
  have r1 := b1.range 0 4
  rw [List.drop_zero, List.take_of_length_le (by simp)] at r1
  have z1 := t1.size
  have FW := Lib.hid (Few_any s A n c _ w1 hf s1 z1)
  have GD := fun W hB => Good_any s A n c z w.heap.size W hz hf hky hkd hB
  have hsz : (Try.prog.info? 30).map (·.size) = some ([.string s.name, .slice A n c, .int .i64 s.key, .bool s.only] : List Value).length := by kernel_rfl
  have B1 := Lib.hid (And.intro b1 (And.intro t1 s1))
  clear hs hs0 b0 t0 bel1 b1 t1 s1 KN
  go_wp2_with (first
    | (refine wpList_load_mid rfl 30 (.tmp 4) rfl w.heap.size 0 rfl _ _ r1 Try.underlying30 rfl hsz ?_)
    | fail)
  refine FW.out.mono ?_
  rintro e w2 ⟨rfl, t2⟩
  have b2 := B1.out.1.turns t2 (by simp)
  have t02 := B1.out.2.1.trans t2 (by simp)
  have s2 := t2.slice B1.out.2.2 z1 (by simp)
  have r2 := b2.range 0 4
  rw [List.drop_zero, List.take_of_length_le (by simp)] at r2
  cases hfw : fewS s
  · have bel := t02.below (Nat.le_refl _) (by simp)
    clear b2 t02 s2 r2 GD
    go_wp2_with fail
    go_ret
    exact ⟨rfl, bel⟩
  have GD' := Lib.hid (GD w2 s2 t02.size)
  have B2 := Lib.hid t02
  by_cases ht30 : 30 < t.size
  · have x1 : 30 < (t.size : Int) := by omega
    have bel := t02.below (Nat.le_refl _) (by simp)
    clear b2 t02 s2 r2 GD GD' FW B1 r1 t2
    go_wp2_with fail
    go_ret
    exact ⟨rfl, bel⟩
  have x1 : (t.size : Int) ≤ 30 := by omega
  have z2 := t02.size
  obtain ⟨hf9, -, -⟩ := fewS_names hfw
  have CK := fun W hB => Check_any s A n c w.heap.size W hf hB
  have RK := fun W hB => refCheck_any s A n c w.heap.size W hf hB
  have BY := fun W hB hl => Bytes_any s A n c w.heap.size W hf hB hl hf9
  have RB := fun W hB hl => refBytes_any s A n c w.heap.size W hf hB hl hf9
  generalize checkS s = ck at CK RK
  replace CK := Lib.hid CK
  replace RK := Lib.hid RK
  replace BY := Lib.hid BY
  replace RB := Lib.hid RB
  clear FW B1 r1 t2 b2 B2 GD'
  replace GD := Lib.hid GD
  have T02 := Lib.hid t02
  clear t02
  go_upto_region 5 with fail
  go_cut [38] (fun u wx => u = .bool false ∧ Turns [] w2 wx)
  case first =>
    have hS : Turns [] w2 w2.drew := (Turns.refl _ _).drew
    have CK := CK.out
    have RK := RK.out
    have BY := BY.out
    have RB := RB.out
    refine reg_begin (fun W => Turns [] w2 W) (fun _ => True) 14 14 #[false, false, false, false, false, false, false, false, false, false, false, false, false, false] (by kernel_rfl) (by kernel_rfl) (by kernel_rfl) ?_
    refine reg_take_y 0 25 13 #[true, false, false, false, false, false, false, false, false, false, false, false, false, false] (by rfl) rfl rfl (by kernel_rfl) (by kernel_rfl) (by kernel_rfl) (by kernel_rfl) (fun _ _ _ h => h) (yieldsIf_load_mid (by rfl) _ _ rfl w.heap.size 0 (by rfl) _ _ (fun W hS => rangeT hS r2) Try.underlying30 rfl hsz) (Till.mk' hS trivial) ?_
    try simp only [List.setIfInBounds_toArray, List.set_cons_succ, List.set_cons_zero]
    refine reg_take_y 2 27 12 #[true, false, true, false, false, false, false, false, false, false, false, false, false, false] (by rfl) rfl rfl (by kernel_rfl) (by kernel_rfl) (by kernel_rfl) (by kernel_rfl) (fun _ _ _ h => h) (yieldsIf_load_mid (by rfl) _ _ rfl w.heap.size 0 (by rfl) _ _ (fun W hS => rangeT hS r2) Try.underlying30 rfl hsz) (Till.mk' hS trivial) ?_
    try simp only [List.setIfInBounds_toArray, List.set_cons_succ, List.set_cons_zero]
    refine reg_one 1 11 #[true, true, true, false, false, false, false, false, false, false, false, false, false, false] (by kernel_rfl) rfl (by rfl) (by kernel_rfl) (fun K hK => ?_)
    go_simp
    refine (CK _ (by exact hS.slice s2 z2 (by simp)) (Nat.le_trans z2 hS.size)).mono ?_
    rintro e y1 ⟨rfl, tt⟩
    have hS := hS.trans tt (by simp)
    clear tt
    refine hK _ _ (Till.mk' hS trivial) ?_
    clear hK K
    try simp only [List.setIfInBounds_toArray, List.set_cons_succ, List.set_cons_zero]
    refine reg_one 3 10 #[true, true, true, true, false, false, false, false, false, false, false, false, false, false] (by kernel_rfl) rfl (by rfl) (by kernel_rfl) (fun K hK => ?_)
    go_simp
    refine (RK _ (by exact hS.slice s2 z2 (by simp)) (Nat.le_trans z2 hS.size)).mono ?_
    rintro e y2 ⟨rfl, tt⟩
    have hS := hS.trans tt (by simp)
    clear tt
    refine hK _ _ (Till.mk' hS trivial) ?_
    clear hK K
    try simp only [List.setIfInBounds_toArray, List.set_cons_succ, List.set_cons_zero]
    refine reg_take 4 29 9 #[true, true, true, true, true, false, false, false, false, false, false, false, false, false] (by rfl) (v := ?_) rfl rfl (by kernel_rfl) (by kernel_rfl) (by kernel_rfl) (by kernel_rfl) (fun _ _ _ h => h) (by rfl) ?_ (Till.mk' hS trivial) ?_
    rotate_left
    · intro W hS; go_simp; all_goals with_reducible rfl
    try simp only [List.setIfInBounds_toArray, List.set_cons_succ, List.set_cons_zero]
    refine reg_take 5 30 8 #[true, true, true, true, true, true, false, false, false, false, false, false, false, false] (by rfl) (v := ?_) rfl rfl (by kernel_rfl) (by kernel_rfl) (by kernel_rfl) (by kernel_rfl) (fun _ _ _ h => h) (by rfl) ?_ (Till.mk' hS trivial) ?_
    rotate_left
    · intro W hS; go_simp; all_goals with_reducible rfl
    try simp only [List.setIfInBounds_toArray, List.set_cons_succ, List.set_cons_zero]
    refine reg_take_y 6 31 7 #[true, true, true, true, true, true, true, false, false, false, false, false, false, false] (by rfl) rfl rfl (by kernel_rfl) (by kernel_rfl) (by kernel_rfl) (by kernel_rfl) (fun _ _ _ h => h) (yieldsIf_load_mid (by rfl) _ _ rfl w.heap.size 0 (by rfl) _ _ (fun W hS => rangeT hS r2) Try.underlying30 rfl hsz) (Till.mk' hS trivial) ?_
    try simp only [List.setIfInBounds_toArray, List.set_cons_succ, List.set_cons_zero]
    refine reg_take_y 9 34 6 #[true, true, true, true, true, true, true, false, false, true, false, false, false, false] (by rfl) rfl rfl (by kernel_rfl) (by kernel_rfl) (by kernel_rfl) (by kernel_rfl) (fun _ _ _ h => h) (yieldsIf_load_mid (by rfl) _ _ rfl w.heap.size 0 (by rfl) _ _ (fun W hS => rangeT hS r2) Try.underlying30 rfl hsz) (Till.mk' hS trivial) ?_
    try simp only [List.setIfInBounds_toArray, List.set_cons_succ, List.set_cons_zero]
    refine reg_one 7 5 #[true, true, true, true, true, true, true, true, false, true, false, false, false, false] (by kernel_rfl) rfl (by rfl) (by kernel_rfl) (fun K hK => ?_)
    go_simp
    refine (BY _ (by exact hS.slice s2 z2 (by simp)) (Nat.le_trans z2 hS.size)).mono ?_
    rintro e y3 ⟨v3, rfl, m3⟩
    have hS := hS.trans m3.turns (by simp)
    have sv3 := m3.sl
    clear m3
    refine hK _ _ (Till.mk' hS trivial) ?_
    clear hK K
    try simp only [List.setIfInBounds_toArray, List.set_cons_succ, List.set_cons_zero]
    refine reg_two 8 10 4 #[true, true, true, true, true, true, true, true, true, true, false, false, false, false] #[true, true, true, true, true, true, true, true, false, true, true, false, false, false] (by kernel_rfl) rfl rfl (by rfl) (by rfl) (by kernel_rfl) (by kernel_rfl) (fun K hK => ?_) (fun K hK => ?_)
    · have hcv := conv_str (P := Try.prog) (dst := 9) (src := 35) sv3 Try.underlying35 Try.underlying5 Try.underlying9
      go_simp
      clear hcv
      refine hK _ _ (Till.mk' hS trivial) ?_
      clear hK K
      try simp only [List.setIfInBounds_toArray, List.set_cons_succ, List.set_cons_zero]
      refine reg_one 10 3 #[true, true, true, true, true, true, true, true, true, true, true, false, false, false] (by kernel_rfl) rfl (by rfl) (by kernel_rfl) (fun K hK => ?_)
      go_simp
      refine (RB _ (by exact hS.slice s2 z2 (by simp)) (Nat.le_trans z2 hS.size)).mono ?_
      rintro e y4 ⟨v4, rfl, m4⟩
      have sv3 := m4.turns.slice sv3 (Nat.le_refl _) (by simp)
      have hS := hS.trans m4.turns (by simp)
      have sv4 := m4.sl
      clear m4
      refine hK _ _ (Till.mk' hS trivial) ?_
      clear hK K
      try simp only [List.setIfInBounds_toArray, List.set_cons_succ, List.set_cons_zero]
      refine reg_one 11 2 #[true, true, true, true, true, true, true, true, true, true, true, true, false, false] (by kernel_rfl) rfl (by rfl) (by kernel_rfl) (fun K hK => ?_)
      have hcv := conv_str (P := Try.prog) (dst := 9) (src := 35) sv4 Try.underlying35 Try.underlying5 Try.underlying9
      go_simp
      clear hcv
      refine hK _ _ (Till.mk' hS trivial) ?_
      clear hK K
      try simp only [List.setIfInBounds_toArray, List.set_cons_succ, List.set_cons_zero]
      refine reg_take 12 37 1 #[true, true, true, true, true, true, true, true, true, true, true, true, true, false] (by rfl) (v := ?_) rfl rfl (by kernel_rfl) (by kernel_rfl) (by kernel_rfl) (by kernel_rfl) (fun _ _ _ h => h) (by rfl) ?_ (Till.mk' hS trivial) ?_
      rotate_left
      · intro W hS; go_simp; all_goals with_reducible rfl
      try simp only [List.setIfInBounds_toArray, List.set_cons_succ, List.set_cons_zero]
      refine reg_take 13 38 0 #[true, true, true, true, true, true, true, true, true, true, true, true, true, true] (by rfl) (v := ?_) rfl rfl (by kernel_rfl) (by kernel_rfl) (by kernel_rfl) (by kernel_rfl) (fun _ _ _ h => h) (by rfl) ?_ (Till.mk' hS trivial) ?_
      rotate_left
      · intro W hS; go_simp; all_goals with_reducible rfl
      try simp only [List.setIfInBounds_toArray, List.set_cons_succ, List.set_cons_zero]
      refine reg_done (by kernel_rfl) ?_ _
      go_wp2_with fail
      go_meet
      exact ⟨rfl, hS⟩
    · go_simp
      refine (RB _ (by exact hS.slice s2 z2 (by simp)) (Nat.le_trans z2 hS.size)).mono ?_
      rintro e y4 ⟨v4, rfl, m4⟩
      have sv3 := m4.turns.slice sv3 (Nat.le_refl _) (by simp)
      have hS := hS.trans m4.turns (by simp)
      have sv4 := m4.sl
      clear m4
      refine hK _ _ (Till.mk' hS trivial) ?_
      clear hK K
      try simp only [List.setIfInBounds_toArray, List.set_cons_succ, List.set_cons_zero]
      refine reg_two 8 11 3 #[true, true, true, true, true, true, true, true, true, true, true, false, false, false] #[true, true, true, true, true, true, true, true, false, true, true, true, false, false] (by kernel_rfl) rfl rfl (by rfl) (by rfl) (by kernel_rfl) (by kernel_rfl) (fun K hK => ?_) (fun K hK => ?_)
      · have hcv := conv_str (P := Try.prog) (dst := 9) (src := 35) sv3 Try.underlying35 Try.underlying5 Try.underlying9
        go_simp
        clear hcv
        refine hK _ _ (Till.mk' hS trivial) ?_
        clear hK K
        try simp only [List.setIfInBounds_toArray, List.set_cons_succ, List.set_cons_zero]
        refine reg_one 11 2 #[true, true, true, true, true, true, true, true, true, true, true, true, false, false] (by kernel_rfl) rfl (by rfl) (by kernel_rfl) (fun K hK => ?_)
        have hcv := conv_str (P := Try.prog) (dst := 9) (src := 35) sv4 Try.underlying35 Try.underlying5 Try.underlying9
        go_simp
        clear hcv
        refine hK _ _ (Till.mk' hS trivial) ?_
        clear hK K
        try simp only [List.setIfInBounds_toArray, List.set_cons_succ, List.set_cons_zero]
        refine reg_take 12 37 1 #[true, true, true, true, true, true, true, true, true, true, true, true, true, false] (by rfl) (v := ?_) rfl rfl (by kernel_rfl) (by kernel_rfl) (by kernel_rfl) (by kernel_rfl) (fun _ _ _ h => h) (by rfl) ?_ (Till.mk' hS trivial) ?_
        rotate_left
        · intro W hS; go_simp; all_goals with_reducible rfl
        try simp only [List.setIfInBounds_toArray, List.set_cons_succ, List.set_cons_zero]
        refine reg_take 13 38 0 #[true, true, true, true, true, true, true, true, true, true, true, true, true, true] (by rfl) (v := ?_) rfl rfl (by kernel_rfl) (by kernel_rfl) (by kernel_rfl) (by kernel_rfl) (fun _ _ _ h => h) (by rfl) ?_ (Till.mk' hS trivial) ?_
        rotate_left
        · intro W hS; go_simp; all_goals with_reducible rfl
        try simp only [List.setIfInBounds_toArray, List.set_cons_succ, List.set_cons_zero]
        refine reg_done (by kernel_rfl) ?_ _
        go_wp2_with fail
        go_meet
        exact ⟨rfl, hS⟩
      · have hcv := conv_str (P := Try.prog) (dst := 9) (src := 35) sv4 Try.underlying35 Try.underlying5 Try.underlying9
        go_simp
        clear hcv
        refine hK _ _ (Till.mk' hS trivial) ?_
        clear hK K
        try simp only [List.setIfInBounds_toArray, List.set_cons_succ, List.set_cons_zero]
        refine reg_one 8 2 #[true, true, true, true, true, true, true, true, true, true, true, true, false, false] (by kernel_rfl) rfl (by rfl) (by kernel_rfl) (fun K hK => ?_)
        have hcv := conv_str (P := Try.prog) (dst := 9) (src := 35) sv3 Try.underlying35 Try.underlying5 Try.underlying9
        go_simp
        clear hcv
        refine hK _ _ (Till.mk' hS trivial) ?_
        clear hK K
        try simp only [List.setIfInBounds_toArray, List.set_cons_succ, List.set_cons_zero]
        refine reg_take 12 37 1 #[true, true, true, true, true, true, true, true, true, true, true, true, true, false] (by rfl) (v := ?_) rfl rfl (by kernel_rfl) (by kernel_rfl) (by kernel_rfl) (by kernel_rfl) (fun _ _ _ h => h) (by rfl) ?_ (Till.mk' hS trivial) ?_
        rotate_left
        · intro W hS; go_simp; all_goals with_reducible rfl
        try simp only [List.setIfInBounds_toArray, List.set_cons_succ, List.set_cons_zero]
        refine reg_take 13 38 0 #[true, true, true, true, true, true, true, true, true, true, true, true, true, true] (by rfl) (v := ?_) rfl rfl (by kernel_rfl) (by kernel_rfl) (by kernel_rfl) (by kernel_rfl) (fun _ _ _ h => h) (by rfl) ?_ (Till.mk' hS trivial) ?_
        rotate_left
        · intro W hS; go_simp; all_goals with_reducible rfl
        try simp only [List.setIfInBounds_toArray, List.set_cons_succ, List.set_cons_zero]
        refine reg_done (by kernel_rfl) ?_ _
        go_wp2_with fail
        go_meet
        exact ⟨rfl, hS⟩
  case rest =>
    obtain ⟨rfl, hS⟩ := hcut
    have t02x := T02.out.trans hS (by simp)
    have B2 := Lib.hid t02x
    have GD' := Lib.hid (GD.out wc (by exact hS.slice s2 z2 (by simp)) (Nat.le_trans z2 hS.size))
    replace r2 := rangeT hS r2
    clear CK RK BY RB GD T02 s2 hS t02x
    go_wp2_with (first
      | (refine wpList_load_mid rfl 30 (.tmp 4) rfl w.heap.size 0 rfl _ _ r2 Try.underlying30 rfl hsz ?_)
      | fail)
    refine GD'.out.mono ?_
    rintro e w3 ⟨g, cg, rfl, own3, t3⟩
    have t03 := B2.out.trans t3 (by simp)
    have gl := goodL_le s
    have gp := goodL_pos s
    have gk := goodKey_lt s
    have hcols := goodS_goodC s z
    have hck := goodS_check s z
    have hfit := goodS_name_size s z
    have hfc := goodS_fits s z
    have hgn := goodS_len s z
    have hgo : (goodS s z).only = s.only ∧ (goodS s z).key = (goodKey s : Nat) := ⟨rfl, rfl⟩
    generalize goodS s z = G at own3 hgn hgo hcols hck hfit hfc
    obtain ⟨w4, hw4⟩ : ∃ w4, w4 = w3.alloc (.cells #[.string G.name, .slice (some ⟨g, 0, none⟩) (goodL s) cg, .int .i64 (goodKey s : Nat), .bool s.only] 30) := ⟨_, rfl⟩
    have t04 := t03.alloc (.cells #[.string G.name, .slice (some ⟨g, 0, none⟩) (goodL s) cg, .int .i64 (goodKey s : Nat), .bool s.only] 30)
    have b4 := Blk.new w3 [.string G.name, .slice (some ⟨g, 0, none⟩) (goodL s) cg, .int .i64 (goodKey s : Nat), .bool s.only] 30
    have own4 := own3.alloc (.cells #[.string G.name, .slice (some ⟨g, 0, none⟩) (goodL s) cg, .int .i64 (goodKey s : Nat), .bool s.only] 30)
    have own3lt := (own3.lt g rfl).2
    have hz4 : w3.heap.size ≤ w4.heap.size := by rw [hw4]; simp
    have hz3 := t3.size
    rw [← hw4] at t04 own4
    rw [show w3.alloc (.cells [.string G.name, .slice (some ⟨g, 0, none⟩) (goodL s) cg, .int .i64 (goodKey s : Nat), .bool s.only].toArray 30) = w4 from hw4.symm] at b4
    have s4 := Sl.of_own own4
    have c1 : w4.cell? ⟨w3.heap.size, 1, none⟩ = some (.slice (some ⟨g, 0, none⟩) (goodL s) cg) := b4.cell 1
    have HW := Lib.hid hw4
    clear hw4 own3 t03 GD' r2 t3
    have CK := Check_any G (some ⟨g, 0, none⟩) (goodL s) cg w4.heap.size w4 ⟨by omega, fun c hc => by obtain ⟨j, hj, rfl⟩ := List.mem_iff_getElem.1 hc; rw [hfc j hj]; omega⟩ s4 (Nat.le_refl _)
    rw [hck] at CK
    simp only [hgo.1, hgo.2] at CK
    replace CK := Lib.hid CK
    obtain ⟨k, hk⟩ : ∃ k : Nat, z % (goodL s : Int) = k := ⟨(z % (goodL s : Int)).toNat, by have := Int.emod_nonneg z (show (goodL s : Int) ≠ 0 by omega); omega⟩
    have hkG : k < G.cols.length := by have := Int.emod_lt_of_pos z (show (0 : Int) < (goodL s : Int) by omega); omega
    have WI := fun W => within_any z (goodL s) W hz.1 hz.2 (by omega) (by omega)
    rw [hk] at WI
    replace WI := Lib.hid WI
    have hki : (k : Int) < (goodL s : Int) := by omega
    have WQ := fun W => within_any q 7 W hq.1 hq.2 (by omega) (by omega)
    have r4 := b4.range 0 4
    rw [List.drop_zero, List.take_of_length_le (by simp)] at r4
    have hsz4 : (Try.prog.info? 30).map (·.size) = some ([.string G.name, .slice (some ⟨g, 0, none⟩) (goodL s) cg, .int .i64 (goodKey s : Nat), .bool s.only] : List Value).length := by kernel_rfl
    obtain ⟨p9, hp9⟩ : ∃ p9, p9 = w3.heap.size := ⟨_, rfl⟩
    have hne : g ≠ p9 := by omega
    have hb2 := B2.out.size
    have hp9w : w.heap.size ≤ p9 := by omega
    rw [← hp9] at b4 r4 c1
    have HP9 := Lib.hid hp9
    have H4 := Lib.hid (And.intro b4 (And.intro own4 (And.intro t04 (And.intro hgo (And.intro hfit hfc)))))
    have h7 : q % 7 = 0 ∨ q % 7 = 1 ∨ q % 7 = 2 ∨ q % 7 = 3 ∨ q % 7 = 4 ∨ q % 7 = 5 ∨ q % 7 = 6 := by omega
    clear b4 own4 t04 hgo hfit hfc hk hck hgn hcols c1 s4 hp9 own3lt hz4 hz3
    rcases h7 with h7 | h7 | h7 | h7 | h7 | h7 | h7
    all_goals
      rw [h7] at WQ
      replace WQ := Lib.hid WQ
      clear h7
      go_upto_region 8 with (first
        | (refine wpList_load_mid rfl 30 (.tmp 4) rfl w.heap.size 0 rfl _ _ r2 Try.underlying30 rfl hsz ?_)
        | fail)
      rw [← HW.out, ← HP9.out]
      go_wp2_with (first
        | (refine wpList_load_mid rfl 30 (.tmp 9) rfl p9 0 rfl _ _ r4 Try.underlying30 rfl hsz4 ?_)
        | fail)
      refine CK.out.mono ?_
      rintro e w5 ⟨rfl, t5⟩
      have v9 := H4.out.1.turns t5 (by simp)
      have o9 := own_t0 H4.out.2.1 t5
      have t0 := H4.out.2.2.1.trans t5 (by simp)
      have k9 := v9.cell 1
      simp only [List.getElem?_cons_zero, List.getElem?_cons_succ] at k9
      have HV := Lib.hid (And.intro v9 (And.intro o9 (And.intro t0 H4.out.2.2.2)))
      clear t5 CK r4 v9 o9 t0
      go_wp2_with fail
      refine (WI.out _).mono ?_
      rintro e ww ⟨rfl, rfl⟩
      go_wp2_with fail
      refine (WQ.out _).mono ?_
      rintro e ww ⟨rfl, rfl⟩
      clear WI WQ
    ·
      obtain ⟨v9, o9, t0, hgo, hfit, hfc⟩ := HV.out

      have q9 := v9.cell 0
      have f9 := v9.free 0
      simp only [List.getElem?_cons_zero, List.getElem?_cons_succ] at q9
      have v9x := v9.set 0 (.string t)
      simp only [List.set_cons_succ, List.set_cons_zero] at v9x
      have o9x := ownsRow_setCell_other o9 (a := ⟨p9, 0, none⟩) (by simpa [Value.ownBlock] using hne) (.string t)
      have tx := t0.setCell (p := ⟨p9, 0, none⟩) (.inr (by simp; omega)) (.string t)
      have s9x := Sl.of_own o9x
      have hft : (⟨t, G.cols, G.key, G.only⟩ : Sch).fits := ⟨ht, fun c hc => by obtain ⟨j, hj, rfl⟩ := List.mem_iff_getElem.1 hc; rw [hfc j hj]; omega⟩
      obtain ⟨x, hx⟩ : ∃ x, x = w5.setCell ⟨p9, 0, none⟩ (.string t) := ⟨_, rfl⟩
      rw [← hx] at v9x s9x tx
      have HX := Lib.hid hx
      clear hx
      have ra := v9x.range 0 4
      rw [List.drop_zero, List.take_of_length_le (by simp)] at ra
      have hsa : (Try.prog.info? 30).map (·.size) = some ([.string (t), .slice (some ⟨g, 0, none⟩) (goodL s) cg, .int .i64 (goodKey s : Nat), .bool (s.only)] : List Value).length := by kernel_rfl
      have F1 := Find_any ⟨t, G.cols, G.key, G.only⟩ (some ⟨g, 0, none⟩) (goodL s) cg t x.heap.size x s9x (Nat.le_refl _)
      have F2 := fun (X : World) (tt : Turns [] x X) => refFind_any ⟨t, G.cols, G.key, G.only⟩ (some ⟨g, 0, none⟩) (goodL s) cg t x.heap.size X (by exact tt.slice s9x (Nat.le_refl _) (by simp)) tt.size
      have F3 := fun (X : World) (tt : Turns [] x X) => Check_any ⟨t, G.cols, G.key, G.only⟩ (some ⟨g, 0, none⟩) (goodL s) cg x.heap.size X hft (by exact tt.slice s9x (Nat.le_refl _) (by simp)) tt.size
      have F4 := fun (X : World) (tt : Turns [] x X) => refCheck_any ⟨t, G.cols, G.key, G.only⟩ (some ⟨g, 0, none⟩) (goodL s) cg x.heap.size X hft (by exact tt.slice s9x (Nat.le_refl _) (by simp)) tt.size
      generalize checkS ⟨t, G.cols, G.key, G.only⟩ = ck at F3 F4
      generalize max (findI t (⟨t, G.cols, G.key, G.only⟩ : Sch).cols) 0 = fa at F1 F2
      generalize decide (0 ≤ findI t (⟨t, G.cols, G.key, G.only⟩ : Sch).cols) = fb at F1 F2
      simp only [hgo.1, hgo.2] at F1 F2 F3 F4
      replace F1 := Lib.hid F1
      replace F2 := Lib.hid F2
      replace F3 := Lib.hid F3
      replace F4 := Lib.hid F4
      have TX := Lib.hid tx
      clear v9 o9 t0 v9x s9x tx hgo hfit hfc hft

      go_upto_region 26 with fail
      rw [← HX.out]
      go_wp2_with (first
        | (refine wpList_load_mid rfl 30 (.tmp 9) rfl p9 0 rfl _ _ ra Try.underlying30 rfl hsa ?_)
        | fail)
      refine F1.out.mono ?_
      rintro e x2 ⟨rfl, tt⟩
      have hS := tt
      have rb := rangeT tt ra
      have G2 := Lib.hid (F2.out x2 tt)
      have HT := Lib.hid tt
      clear tt hS
      go_wp2_with (first
        | (refine wpList_load_mid rfl 30 (.tmp 9) rfl p9 0 rfl _ _ rb Try.underlying30 rfl hsa ?_)
        | fail)
      refine G2.out.mono ?_
      rintro e x3 ⟨rfl, tt⟩
      have hS := (HT.out.trans tt (by simp)).drew
      clear tt G2 rb
      go_wp2_with fail
      refine reg_begin (fun W => Turns [] x W) (fun _ => True) 16 16 #[false, false, false, false, false, false, false, false, false, false, false, false, false, false, false, false] (by kernel_rfl) (by kernel_rfl) (by kernel_rfl) ?_
      refine reg_take_y 0 117 15 #[true, false, false, false, false, false, false, false, false, false, false, false, false, false, false, false] (by rfl) rfl rfl (by kernel_rfl) (by kernel_rfl) (by kernel_rfl) (by kernel_rfl) (fun _ _ _ h => h) (yieldsIf_load_mid (by rfl) _ _ rfl p9 0 (by rfl) _ _ (fun W hS => rangeT hS ra) Try.underlying30 rfl hsa) (Till.mk' hS trivial) ?_
      try simp only [List.setIfInBounds_toArray, List.set_cons_succ, List.set_cons_zero]
      refine reg_take_y 2 119 14 #[true, false, true, false, false, false, false, false, false, false, false, false, false, false, false, false] (by rfl) rfl rfl (by kernel_rfl) (by kernel_rfl) (by kernel_rfl) (by kernel_rfl) (fun _ _ _ h => h) (yieldsIf_load_mid (by rfl) _ _ rfl p9 0 (by rfl) _ _ (fun W hS => rangeT hS ra) Try.underlying30 rfl hsa) (Till.mk' hS trivial) ?_
      try simp only [List.setIfInBounds_toArray, List.set_cons_succ, List.set_cons_zero]
      refine reg_one 1 13 #[true, true, true, false, false, false, false, false, false, false, false, false, false, false, false, false] (by kernel_rfl) rfl (by rfl) (by kernel_rfl) (fun K hK => ?_)
      go_simp
      refine (F3.out _ hS).mono ?_
      rintro e x4 ⟨rfl, tt⟩
      have hS := hS.trans tt (by simp)
      clear tt
      refine hK _ _ (Till.mk' hS trivial) ?_
      clear hK K
      try simp only [List.setIfInBounds_toArray, List.set_cons_succ, List.set_cons_zero]
      refine reg_one 3 12 #[true, true, true, true, false, false, false, false, false, false, false, false, false, false, false, false] (by kernel_rfl) rfl (by rfl) (by kernel_rfl) (fun K hK => ?_)
      go_simp
      refine (F4.out _ hS).mono ?_
      rintro e x5 ⟨rfl, tt⟩
      have hS := hS.trans tt (by simp)
      clear tt
      refine hK _ _ (Till.mk' hS trivial) ?_
      clear hK K
      try simp only [List.setIfInBounds_toArray, List.set_cons_succ, List.set_cons_zero]
      refine reg_take 4 121 11 #[true, true, true, true, true, false, false, false, false, false, false, false, false, false, false, false] (by rfl) (v := ?_) rfl rfl (by kernel_rfl) (by kernel_rfl) (by kernel_rfl) (by kernel_rfl) (fun _ _ _ h => h) (by rfl) ?_ (Till.mk' hS trivial) ?_
      rotate_left
      · intro W hS; go_simp; all_goals with_reducible rfl
      try simp only [List.setIfInBounds_toArray, List.set_cons_succ, List.set_cons_zero]
      refine reg_take 5 122 10 #[true, true, true, true, true, true, false, false, false, false, false, false, false, false, false, false] (by rfl) (v := ?_) rfl rfl (by kernel_rfl) (by kernel_rfl) (by kernel_rfl) (by kernel_rfl) (fun _ _ _ h => h) (by rfl) ?_ (Till.mk' hS trivial) ?_
      rotate_left
      · intro W hS; go_simp; all_goals with_reducible rfl
      try simp only [List.setIfInBounds_toArray, List.set_cons_succ, List.set_cons_zero]
      refine reg_take 6 123 9 #[true, true, true, true, true, true, true, false, false, false, false, false, false, false, false, false] (by rfl) (v := ?_) rfl rfl (by kernel_rfl) (by kernel_rfl) (by kernel_rfl) (by kernel_rfl) (fun _ _ _ h => h) (by rfl) ?_ (Till.mk' hS trivial) ?_
      rotate_left
      · intro W hS; go_simp; all_goals with_reducible rfl
      try simp only [List.setIfInBounds_toArray, List.set_cons_succ, List.set_cons_zero]
      refine reg_take 7 124 8 #[true, true, true, true, true, true, true, true, false, false, false, false, false, false, false, false] (by rfl) (v := ?_) rfl rfl (by kernel_rfl) (by kernel_rfl) (by kernel_rfl) (by kernel_rfl) (fun _ _ _ h => h) (by rfl) ?_ (Till.mk' hS trivial) ?_
      rotate_left
      · intro W hS; go_simp; all_goals with_reducible rfl
      try simp only [List.setIfInBounds_toArray, List.set_cons_succ, List.set_cons_zero]
      refine reg_take 8 125 7 #[true, true, true, true, true, true, true, true, true, false, false, false, false, false, false, false] (by rfl) (v := ?_) rfl rfl (by kernel_rfl) (by kernel_rfl) (by kernel_rfl) (by kernel_rfl) (fun _ _ _ h => h) (by rfl) ?_ (Till.mk' hS trivial) ?_
      rotate_left
      · intro W hS; go_simp; all_goals with_reducible rfl
      try simp only [List.setIfInBounds_toArray, List.set_cons_succ, List.set_cons_zero]
      refine reg_take 9 126 6 #[true, true, true, true, true, true, true, true, true, true, false, false, false, false, false, false] (by rfl) (v := ?_) rfl rfl (by kernel_rfl) (by kernel_rfl) (by kernel_rfl) (by kernel_rfl) (fun _ _ _ h => h) (by rfl) ?_ (Till.mk' hS trivial) ?_
      rotate_left
      · intro W hS; go_simp; all_goals with_reducible rfl
      try simp only [List.setIfInBounds_toArray, List.set_cons_succ, List.set_cons_zero]
      refine reg_take 10 127 5 #[true, true, true, true, true, true, true, true, true, true, true, false, false, false, false, false] (by rfl) (v := ?_) rfl rfl (by kernel_rfl) (by kernel_rfl) (by kernel_rfl) (by kernel_rfl) (fun _ _ _ h => h) (by rfl) ?_ (Till.mk' hS trivial) ?_
      rotate_left
      · intro W hS; go_simp; all_goals with_reducible rfl
      try simp only [List.setIfInBounds_toArray, List.set_cons_succ, List.set_cons_zero]
      refine reg_take 11 128 4 #[true, true, true, true, true, true, true, true, true, true, true, true, false, false, false, false] (by rfl) (v := ?_) rfl rfl (by kernel_rfl) (by kernel_rfl) (by kernel_rfl) (by kernel_rfl) (fun _ _ _ h => h) (by rfl) ?_ (Till.mk' hS trivial) ?_
      rotate_left
      · intro W hS; go_simp; all_goals with_reducible rfl
      try simp only [List.setIfInBounds_toArray, List.set_cons_succ, List.set_cons_zero]
      refine reg_take 12 129 3 #[true, true, true, true, true, true, true, true, true, true, true, true, true, false, false, false] (by rfl) (v := ?_) rfl rfl (by kernel_rfl) (by kernel_rfl) (by kernel_rfl) (by kernel_rfl) (fun _ _ _ h => h) (by rfl) ?_ (Till.mk' hS trivial) ?_
      rotate_left
      · intro W hS; go_simp; all_goals with_reducible rfl
      try simp only [List.setIfInBounds_toArray, List.set_cons_succ, List.set_cons_zero]
      refine reg_take 13 130 2 #[true, true, true, true, true, true, true, true, true, true, true, true, true, true, false, false] (by rfl) (v := ?_) rfl rfl (by kernel_rfl) (by kernel_rfl) (by kernel_rfl) (by kernel_rfl) (fun _ _ _ h => h) (by rfl) ?_ (Till.mk' hS trivial) ?_
      rotate_left
      · intro W hS; go_simp; all_goals with_reducible rfl
      try simp only [List.setIfInBounds_toArray, List.set_cons_succ, List.set_cons_zero]
      refine reg_take 14 131 1 #[true, true, true, true, true, true, true, true, true, true, true, true, true, true, true, false] (by rfl) (v := ?_) rfl rfl (by kernel_rfl) (by kernel_rfl) (by kernel_rfl) (by kernel_rfl) (fun _ _ _ h => h) (by rfl) ?_ (Till.mk' hS trivial) ?_
      rotate_left
      · intro W hS; go_simp; all_goals with_reducible rfl
      try simp only [List.setIfInBounds_toArray, List.set_cons_succ, List.set_cons_zero]
      refine reg_take 15 8 0 #[true, true, true, true, true, true, true, true, true, true, true, true, true, true, true, true] (by rfl) (v := ?_) rfl rfl (by kernel_rfl) (by kernel_rfl) (by kernel_rfl) (by kernel_rfl) (fun _ _ _ h => h) (by rfl) ?_ (Till.mk' hS trivial) ?_
      rotate_left
      · intro W hS; go_simp; all_goals with_reducible rfl
      try simp only [List.setIfInBounds_toArray, List.set_cons_succ, List.set_cons_zero]
      refine reg_done (by kernel_rfl) ?_ _
      have bel := (TX.out.trans hS (by simp)).below (Nat.le_refl _) (by simp)
      clear hS
      go_wp2_with fail
      go_ret
      exact ⟨rfl, bel⟩
    ·
      obtain ⟨v9, o9, t0, hgo, hfit, hfc⟩ := HV.out

      obtain ⟨q9, f9⟩ := own_col o9 k 0 hkG (by omega)
      have v9x := v9.other (p := ⟨g, k * 3 + 0, none⟩) hne (.string t)
      have o9x := (o9.stored (k * 3 + 0) (.string t)).1
      rw [Nat.add_zero, colCells_ren _ _ hkG] at o9x
      have s9x := Sl.of_own o9x
      have tx := t0.setCell (p := ⟨g, k * 3 + 0, none⟩) (.inr (by have := (o9.lt g rfl).1; simp; omega)) (.string t)
      try simp only [Nat.add_zero] at q9 f9 v9x s9x tx
      simp only [Col.cells, List.getElem?_cons_zero] at q9
      have hft : (⟨G.name, G.cols.set k (ren G.cols[k] t), G.key, G.only⟩ : Sch).fits := ⟨by show G.name.size ≤ _; omega, fun c hc => by obtain ⟨j, hj, rfl⟩ := List.mem_iff_getElem.1 hc; rw [List.length_set] at hj; rw [List.getElem_set]; split; (first | exact ht | (have := hfc k hkG; show G.cols[k].name.size ≤ _; omega)); rw [hfc j hj]; omega⟩
      obtain ⟨x, hx⟩ : ∃ x, x = w5.setCell ⟨g, k * 3, none⟩ (.string t) := ⟨_, rfl⟩
      rw [← hx] at v9x s9x tx
      have HX := Lib.hid hx
      clear hx
      have ra := v9x.range 0 4
      rw [List.drop_zero, List.take_of_length_le (by simp)] at ra
      have hsa : (Try.prog.info? 30).map (·.size) = some ([.string (G.name), .slice (some ⟨g, 0, none⟩) (goodL s) cg, .int .i64 (goodKey s : Nat), .bool (s.only)] : List Value).length := by kernel_rfl
      have F1 := Find_any ⟨G.name, G.cols.set k (ren G.cols[k] t), G.key, G.only⟩ (some ⟨g, 0, none⟩) (goodL s) cg t x.heap.size x s9x (Nat.le_refl _)
      have F2 := fun (X : World) (tt : Turns [] x X) => refFind_any ⟨G.name, G.cols.set k (ren G.cols[k] t), G.key, G.only⟩ (some ⟨g, 0, none⟩) (goodL s) cg t x.heap.size X (by exact tt.slice s9x (Nat.le_refl _) (by simp)) tt.size
      have F3 := fun (X : World) (tt : Turns [] x X) => Check_any ⟨G.name, G.cols.set k (ren G.cols[k] t), G.key, G.only⟩ (some ⟨g, 0, none⟩) (goodL s) cg x.heap.size X hft (by exact tt.slice s9x (Nat.le_refl _) (by simp)) tt.size
      have F4 := fun (X : World) (tt : Turns [] x X) => refCheck_any ⟨G.name, G.cols.set k (ren G.cols[k] t), G.key, G.only⟩ (some ⟨g, 0, none⟩) (goodL s) cg x.heap.size X hft (by exact tt.slice s9x (Nat.le_refl _) (by simp)) tt.size
      generalize checkS ⟨G.name, G.cols.set k (ren G.cols[k] t), G.key, G.only⟩ = ck at F3 F4
      generalize max (findI t (⟨G.name, G.cols.set k (ren G.cols[k] t), G.key, G.only⟩ : Sch).cols) 0 = fa at F1 F2
      generalize decide (0 ≤ findI t (⟨G.name, G.cols.set k (ren G.cols[k] t), G.key, G.only⟩ : Sch).cols) = fb at F1 F2
      simp only [hgo.1, hgo.2] at F1 F2 F3 F4
      replace F1 := Lib.hid F1
      replace F2 := Lib.hid F2
      replace F3 := Lib.hid F3
      replace F4 := Lib.hid F4
      have TX := Lib.hid tx
      clear v9 o9 t0 v9x s9x tx hgo hfit hfc hft

      go_upto_region 26 with fail
      rw [← HX.out]
      go_wp2_with (first
        | (refine wpList_load_mid rfl 30 (.tmp 9) rfl p9 0 rfl _ _ ra Try.underlying30 rfl hsa ?_)
        | fail)
      refine F1.out.mono ?_
      rintro e x2 ⟨rfl, tt⟩
      have hS := tt
      have rb := rangeT tt ra
      have G2 := Lib.hid (F2.out x2 tt)
      have HT := Lib.hid tt
      clear tt hS
      go_wp2_with (first
        | (refine wpList_load_mid rfl 30 (.tmp 9) rfl p9 0 rfl _ _ rb Try.underlying30 rfl hsa ?_)
        | fail)
      refine G2.out.mono ?_
      rintro e x3 ⟨rfl, tt⟩
      have hS := (HT.out.trans tt (by simp)).drew
      clear tt G2 rb
      go_wp2_with fail
      refine reg_begin (fun W => Turns [] x W) (fun _ => True) 16 16 #[false, false, false, false, false, false, false, false, false, false, false, false, false, false, false, false] (by kernel_rfl) (by kernel_rfl) (by kernel_rfl) ?_
      refine reg_take_y 0 117 15 #[true, false, false, false, false, false, false, false, false, false, false, false, false, false, false, false] (by rfl) rfl rfl (by kernel_rfl) (by kernel_rfl) (by kernel_rfl) (by kernel_rfl) (fun _ _ _ h => h) (yieldsIf_load_mid (by rfl) _ _ rfl p9 0 (by rfl) _ _ (fun W hS => rangeT hS ra) Try.underlying30 rfl hsa) (Till.mk' hS trivial) ?_
      try simp only [List.setIfInBounds_toArray, List.set_cons_succ, List.set_cons_zero]
      refine reg_take_y 2 119 14 #[true, false, true, false, false, false, false, false, false, false, false, false, false, false, false, false] (by rfl) rfl rfl (by kernel_rfl) (by kernel_rfl) (by kernel_rfl) (by kernel_rfl) (fun _ _ _ h => h) (yieldsIf_load_mid (by rfl) _ _ rfl p9 0 (by rfl) _ _ (fun W hS => rangeT hS ra) Try.underlying30 rfl hsa) (Till.mk' hS trivial) ?_
      try simp only [List.setIfInBounds_toArray, List.set_cons_succ, List.set_cons_zero]
      refine reg_one 1 13 #[true, true, true, false, false, false, false, false, false, false, false, false, false, false, false, false] (by kernel_rfl) rfl (by rfl) (by kernel_rfl) (fun K hK => ?_)
      go_simp
      refine (F3.out _ hS).mono ?_
      rintro e x4 ⟨rfl, tt⟩
      have hS := hS.trans tt (by simp)
      clear tt
      refine hK _ _ (Till.mk' hS trivial) ?_
      clear hK K
      try simp only [List.setIfInBounds_toArray, List.set_cons_succ, List.set_cons_zero]
      refine reg_one 3 12 #[true, true, true, true, false, false, false, false, false, false, false, false, false, false, false, false] (by kernel_rfl) rfl (by rfl) (by kernel_rfl) (fun K hK => ?_)
      go_simp
      refine (F4.out _ hS).mono ?_
      rintro e x5 ⟨rfl, tt⟩
      have hS := hS.trans tt (by simp)
      clear tt
      refine hK _ _ (Till.mk' hS trivial) ?_
      clear hK K
      try simp only [List.setIfInBounds_toArray, List.set_cons_succ, List.set_cons_zero]
      refine reg_take 4 121 11 #[true, true, true, true, true, false, false, false, false, false, false, false, false, false, false, false] (by rfl) (v := ?_) rfl rfl (by kernel_rfl) (by kernel_rfl) (by kernel_rfl) (by kernel_rfl) (fun _ _ _ h => h) (by rfl) ?_ (Till.mk' hS trivial) ?_
      rotate_left
      · intro W hS; go_simp; all_goals with_reducible rfl
      try simp only [List.setIfInBounds_toArray, List.set_cons_succ, List.set_cons_zero]
      refine reg_take 5 122 10 #[true, true, true, true, true, true, false, false, false, false, false, false, false, false, false, false] (by rfl) (v := ?_) rfl rfl (by kernel_rfl) (by kernel_rfl) (by kernel_rfl) (by kernel_rfl) (fun _ _ _ h => h) (by rfl) ?_ (Till.mk' hS trivial) ?_
      rotate_left
      · intro W hS; go_simp; all_goals with_reducible rfl
      try simp only [List.setIfInBounds_toArray, List.set_cons_succ, List.set_cons_zero]
      refine reg_take 6 123 9 #[true, true, true, true, true, true, true, false, false, false, false, false, false, false, false, false] (by rfl) (v := ?_) rfl rfl (by kernel_rfl) (by kernel_rfl) (by kernel_rfl) (by kernel_rfl) (fun _ _ _ h => h) (by rfl) ?_ (Till.mk' hS trivial) ?_
      rotate_left
      · intro W hS; go_simp; all_goals with_reducible rfl
      try simp only [List.setIfInBounds_toArray, List.set_cons_succ, List.set_cons_zero]
      refine reg_take 7 124 8 #[true, true, true, true, true, true, true, true, false, false, false, false, false, false, false, false] (by rfl) (v := ?_) rfl rfl (by kernel_rfl) (by kernel_rfl) (by kernel_rfl) (by kernel_rfl) (fun _ _ _ h => h) (by rfl) ?_ (Till.mk' hS trivial) ?_
      rotate_left
      · intro W hS; go_simp; all_goals with_reducible rfl
      try simp only [List.setIfInBounds_toArray, List.set_cons_succ, List.set_cons_zero]
      refine reg_take 8 125 7 #[true, true, true, true, true, true, true, true, true, false, false, false, false, false, false, false] (by rfl) (v := ?_) rfl rfl (by kernel_rfl) (by kernel_rfl) (by kernel_rfl) (by kernel_rfl) (fun _ _ _ h => h) (by rfl) ?_ (Till.mk' hS trivial) ?_
      rotate_left
      · intro W hS; go_simp; all_goals with_reducible rfl
      try simp only [List.setIfInBounds_toArray, List.set_cons_succ, List.set_cons_zero]
      refine reg_take 9 126 6 #[true, true, true, true, true, true, true, true, true, true, false, false, false, false, false, false] (by rfl) (v := ?_) rfl rfl (by kernel_rfl) (by kernel_rfl) (by kernel_rfl) (by kernel_rfl) (fun _ _ _ h => h) (by rfl) ?_ (Till.mk' hS trivial) ?_
      rotate_left
      · intro W hS; go_simp; all_goals with_reducible rfl
      try simp only [List.setIfInBounds_toArray, List.set_cons_succ, List.set_cons_zero]
      refine reg_take 10 127 5 #[true, true, true, true, true, true, true, true, true, true, true, false, false, false, false, false] (by rfl) (v := ?_) rfl rfl (by kernel_rfl) (by kernel_rfl) (by kernel_rfl) (by kernel_rfl) (fun _ _ _ h => h) (by rfl) ?_ (Till.mk' hS trivial) ?_
      rotate_left
      · intro W hS; go_simp; all_goals with_reducible rfl
      try simp only [List.setIfInBounds_toArray, List.set_cons_succ, List.set_cons_zero]
      refine reg_take 11 128 4 #[true, true, true, true, true, true, true, true, true, true, true, true, false, false, false, false] (by rfl) (v := ?_) rfl rfl (by kernel_rfl) (by kernel_rfl) (by kernel_rfl) (by kernel_rfl) (fun _ _ _ h => h) (by rfl) ?_ (Till.mk' hS trivial) ?_
      rotate_left
      · intro W hS; go_simp; all_goals with_reducible rfl
      try simp only [List.setIfInBounds_toArray, List.set_cons_succ, List.set_cons_zero]
      refine reg_take 12 129 3 #[true, true, true, true, true, true, true, true, true, true, true, true, true, false, false, false] (by rfl) (v := ?_) rfl rfl (by kernel_rfl) (by kernel_rfl) (by kernel_rfl) (by kernel_rfl) (fun _ _ _ h => h) (by rfl) ?_ (Till.mk' hS trivial) ?_
      rotate_left
      · intro W hS; go_simp; all_goals with_reducible rfl
      try simp only [List.setIfInBounds_toArray, List.set_cons_succ, List.set_cons_zero]
      refine reg_take 13 130 2 #[true, true, true, true, true, true, true, true, true, true, true, true, true, true, false, false] (by rfl) (v := ?_) rfl rfl (by kernel_rfl) (by kernel_rfl) (by kernel_rfl) (by kernel_rfl) (fun _ _ _ h => h) (by rfl) ?_ (Till.mk' hS trivial) ?_
      rotate_left
      · intro W hS; go_simp; all_goals with_reducible rfl
      try simp only [List.setIfInBounds_toArray, List.set_cons_succ, List.set_cons_zero]
      refine reg_take 14 131 1 #[true, true, true, true, true, true, true, true, true, true, true, true, true, true, true, false] (by rfl) (v := ?_) rfl rfl (by kernel_rfl) (by kernel_rfl) (by kernel_rfl) (by kernel_rfl) (fun _ _ _ h => h) (by rfl) ?_ (Till.mk' hS trivial) ?_
      rotate_left
      · intro W hS; go_simp; all_goals with_reducible rfl
      try simp only [List.setIfInBounds_toArray, List.set_cons_succ, List.set_cons_zero]
      refine reg_take 15 8 0 #[true, true, true, true, true, true, true, true, true, true, true, true, true, true, true, true] (by rfl) (v := ?_) rfl rfl (by kernel_rfl) (by kernel_rfl) (by kernel_rfl) (by kernel_rfl) (fun _ _ _ h => h) (by rfl) ?_ (Till.mk' hS trivial) ?_
      rotate_left
      · intro W hS; go_simp; all_goals with_reducible rfl
      try simp only [List.setIfInBounds_toArray, List.set_cons_succ, List.set_cons_zero]
      refine reg_done (by kernel_rfl) ?_ _
      have bel := (TX.out.trans hS (by simp)).below (Nat.le_refl _) (by simp)
      clear hS
      go_wp2_with fail
      go_ret
      exact ⟨rfl, bel⟩
    ·
      obtain ⟨v9, o9, t0, hgo, hfit, hfc⟩ := HV.out

      obtain ⟨q9, f9⟩ := own_col o9 k 1 hkG (by omega)
      have v9x := v9.other (p := ⟨g, k * 3 + 1, none⟩) hne (.int .i64 z)
      have o9x := (o9.stored (k * 3 + 1) (.int .i64 z)).1
      rw [colCells_rekind _ _ hkG] at o9x
      have s9x := Sl.of_own o9x
      have tx := t0.setCell (p := ⟨g, k * 3 + 1, none⟩) (.inr (by have := (o9.lt g rfl).1; simp; omega)) (.int .i64 z)
      simp only [Col.cells, List.getElem?_cons_zero, List.getElem?_cons_succ] at q9
      have hft : (⟨G.name, G.cols.set k (rekind G.cols[k] z), G.key, G.only⟩ : Sch).fits := ⟨by show G.name.size ≤ _; omega, fun c hc => by obtain ⟨j, hj, rfl⟩ := List.mem_iff_getElem.1 hc; rw [List.length_set] at hj; rw [List.getElem_set]; split; (first | exact ht | (have := hfc k hkG; show G.cols[k].name.size ≤ _; omega)); rw [hfc j hj]; omega⟩
      obtain ⟨x, hx⟩ : ∃ x, x = w5.setCell ⟨g, k * 3 + 1, none⟩ (.int .i64 z) := ⟨_, rfl⟩
      rw [← hx] at v9x s9x tx
      have HX := Lib.hid hx
      clear hx
      have ra := v9x.range 0 4
      rw [List.drop_zero, List.take_of_length_le (by simp)] at ra
      have hsa : (Try.prog.info? 30).map (·.size) = some ([.string (G.name), .slice (some ⟨g, 0, none⟩) (goodL s) cg, .int .i64 (goodKey s : Nat), .bool (s.only)] : List Value).length := by kernel_rfl
      have F1 := Find_any ⟨G.name, G.cols.set k (rekind G.cols[k] z), G.key, G.only⟩ (some ⟨g, 0, none⟩) (goodL s) cg t x.heap.size x s9x (Nat.le_refl _)
      have F2 := fun (X : World) (tt : Turns [] x X) => refFind_any ⟨G.name, G.cols.set k (rekind G.cols[k] z), G.key, G.only⟩ (some ⟨g, 0, none⟩) (goodL s) cg t x.heap.size X (by exact tt.slice s9x (Nat.le_refl _) (by simp)) tt.size
      have F3 := fun (X : World) (tt : Turns [] x X) => Check_any ⟨G.name, G.cols.set k (rekind G.cols[k] z), G.key, G.only⟩ (some ⟨g, 0, none⟩) (goodL s) cg x.heap.size X hft (by exact tt.slice s9x (Nat.le_refl _) (by simp)) tt.size
      have F4 := fun (X : World) (tt : Turns [] x X) => refCheck_any ⟨G.name, G.cols.set k (rekind G.cols[k] z), G.key, G.only⟩ (some ⟨g, 0, none⟩) (goodL s) cg x.heap.size X hft (by exact tt.slice s9x (Nat.le_refl _) (by simp)) tt.size
      generalize checkS ⟨G.name, G.cols.set k (rekind G.cols[k] z), G.key, G.only⟩ = ck at F3 F4
      generalize max (findI t (⟨G.name, G.cols.set k (rekind G.cols[k] z), G.key, G.only⟩ : Sch).cols) 0 = fa at F1 F2
      generalize decide (0 ≤ findI t (⟨G.name, G.cols.set k (rekind G.cols[k] z), G.key, G.only⟩ : Sch).cols) = fb at F1 F2
      simp only [hgo.1, hgo.2] at F1 F2 F3 F4
      replace F1 := Lib.hid F1
      replace F2 := Lib.hid F2
      replace F3 := Lib.hid F3
      replace F4 := Lib.hid F4
      have TX := Lib.hid tx
      clear v9 o9 t0 v9x s9x tx hgo hfit hfc hft

      go_upto_region 26 with fail
      rw [← HX.out]
      go_wp2_with (first
        | (refine wpList_load_mid rfl 30 (.tmp 9) rfl p9 0 rfl _ _ ra Try.underlying30 rfl hsa ?_)
        | fail)
      refine F1.out.mono ?_
      rintro e x2 ⟨rfl, tt⟩
      have hS := tt
      have rb := rangeT tt ra
      have G2 := Lib.hid (F2.out x2 tt)
      have HT := Lib.hid tt
      clear tt hS
      go_wp2_with (first
        | (refine wpList_load_mid rfl 30 (.tmp 9) rfl p9 0 rfl _ _ rb Try.underlying30 rfl hsa ?_)
        | fail)
      refine G2.out.mono ?_
      rintro e x3 ⟨rfl, tt⟩
      have hS := (HT.out.trans tt (by simp)).drew
      clear tt G2 rb
      go_wp2_with fail
      refine reg_begin (fun W => Turns [] x W) (fun _ => True) 16 16 #[false, false, false, false, false, false, false, false, false, false, false, false, false, false, false, false] (by kernel_rfl) (by kernel_rfl) (by kernel_rfl) ?_
      refine reg_take_y 0 117 15 #[true, false, false, false, false, false, false, false, false, false, false, false, false, false, false, false] (by rfl) rfl rfl (by kernel_rfl) (by kernel_rfl) (by kernel_rfl) (by kernel_rfl) (fun _ _ _ h => h) (yieldsIf_load_mid (by rfl) _ _ rfl p9 0 (by rfl) _ _ (fun W hS => rangeT hS ra) Try.underlying30 rfl hsa) (Till.mk' hS trivial) ?_
      try simp only [List.setIfInBounds_toArray, List.set_cons_succ, List.set_cons_zero]
      refine reg_take_y 2 119 14 #[true, false, true, false, false, false, false, false, false, false, false, false, false, false, false, false] (by rfl) rfl rfl (by kernel_rfl) (by kernel_rfl) (by kernel_rfl) (by kernel_rfl) (fun _ _ _ h => h) (yieldsIf_load_mid (by rfl) _ _ rfl p9 0 (by rfl) _ _ (fun W hS => rangeT hS ra) Try.underlying30 rfl hsa) (Till.mk' hS trivial) ?_
      try simp only [List.setIfInBounds_toArray, List.set_cons_succ, List.set_cons_zero]
      refine reg_one 1 13 #[true, true, true, false, false, false, false, false, false, false, false, false, false, false, false, false] (by kernel_rfl) rfl (by rfl) (by kernel_rfl) (fun K hK => ?_)
      go_simp
      refine (F3.out _ hS).mono ?_
      rintro e x4 ⟨rfl, tt⟩
      have hS := hS.trans tt (by simp)
      clear tt
      refine hK _ _ (Till.mk' hS trivial) ?_
      clear hK K
      try simp only [List.setIfInBounds_toArray, List.set_cons_succ, List.set_cons_zero]
      refine reg_one 3 12 #[true, true, true, true, false, false, false, false, false, false, false, false, false, false, false, false] (by kernel_rfl) rfl (by rfl) (by kernel_rfl) (fun K hK => ?_)
      go_simp
      refine (F4.out _ hS).mono ?_
      rintro e x5 ⟨rfl, tt⟩
      have hS := hS.trans tt (by simp)
      clear tt
      refine hK _ _ (Till.mk' hS trivial) ?_
      clear hK K
      try simp only [List.setIfInBounds_toArray, List.set_cons_succ, List.set_cons_zero]
      refine reg_take 4 121 11 #[true, true, true, true, true, false, false, false, false, false, false, false, false, false, false, false] (by rfl) (v := ?_) rfl rfl (by kernel_rfl) (by kernel_rfl) (by kernel_rfl) (by kernel_rfl) (fun _ _ _ h => h) (by rfl) ?_ (Till.mk' hS trivial) ?_
      rotate_left
      · intro W hS; go_simp; all_goals with_reducible rfl
      try simp only [List.setIfInBounds_toArray, List.set_cons_succ, List.set_cons_zero]
      refine reg_take 5 122 10 #[true, true, true, true, true, true, false, false, false, false, false, false, false, false, false, false] (by rfl) (v := ?_) rfl rfl (by kernel_rfl) (by kernel_rfl) (by kernel_rfl) (by kernel_rfl) (fun _ _ _ h => h) (by rfl) ?_ (Till.mk' hS trivial) ?_
      rotate_left
      · intro W hS; go_simp; all_goals with_reducible rfl
      try simp only [List.setIfInBounds_toArray, List.set_cons_succ, List.set_cons_zero]
      refine reg_take 6 123 9 #[true, true, true, true, true, true, true, false, false, false, false, false, false, false, false, false] (by rfl) (v := ?_) rfl rfl (by kernel_rfl) (by kernel_rfl) (by kernel_rfl) (by kernel_rfl) (fun _ _ _ h => h) (by rfl) ?_ (Till.mk' hS trivial) ?_
      rotate_left
      · intro W hS; go_simp; all_goals with_reducible rfl
      try simp only [List.setIfInBounds_toArray, List.set_cons_succ, List.set_cons_zero]
      refine reg_take 7 124 8 #[true, true, true, true, true, true, true, true, false, false, false, false, false, false, false, false] (by rfl) (v := ?_) rfl rfl (by kernel_rfl) (by kernel_rfl) (by kernel_rfl) (by kernel_rfl) (fun _ _ _ h => h) (by rfl) ?_ (Till.mk' hS trivial) ?_
      rotate_left
      · intro W hS; go_simp; all_goals with_reducible rfl
      try simp only [List.setIfInBounds_toArray, List.set_cons_succ, List.set_cons_zero]
      refine reg_take 8 125 7 #[true, true, true, true, true, true, true, true, true, false, false, false, false, false, false, false] (by rfl) (v := ?_) rfl rfl (by kernel_rfl) (by kernel_rfl) (by kernel_rfl) (by kernel_rfl) (fun _ _ _ h => h) (by rfl) ?_ (Till.mk' hS trivial) ?_
      rotate_left
      · intro W hS; go_simp; all_goals with_reducible rfl
      try simp only [List.setIfInBounds_toArray, List.set_cons_succ, List.set_cons_zero]
      refine reg_take 9 126 6 #[true, true, true, true, true, true, true, true, true, true, false, false, false, false, false, false] (by rfl) (v := ?_) rfl rfl (by kernel_rfl) (by kernel_rfl) (by kernel_rfl) (by kernel_rfl) (fun _ _ _ h => h) (by rfl) ?_ (Till.mk' hS trivial) ?_
      rotate_left
      · intro W hS; go_simp; all_goals with_reducible rfl
      try simp only [List.setIfInBounds_toArray, List.set_cons_succ, List.set_cons_zero]
      refine reg_take 10 127 5 #[true, true, true, true, true, true, true, true, true, true, true, false, false, false, false, false] (by rfl) (v := ?_) rfl rfl (by kernel_rfl) (by kernel_rfl) (by kernel_rfl) (by kernel_rfl) (fun _ _ _ h => h) (by rfl) ?_ (Till.mk' hS trivial) ?_
      rotate_left
      · intro W hS; go_simp; all_goals with_reducible rfl
      try simp only [List.setIfInBounds_toArray, List.set_cons_succ, List.set_cons_zero]
      refine reg_take 11 128 4 #[true, true, true, true, true, true, true, true, true, true, true, true, false, false, false, false] (by rfl) (v := ?_) rfl rfl (by kernel_rfl) (by kernel_rfl) (by kernel_rfl) (by kernel_rfl) (fun _ _ _ h => h) (by rfl) ?_ (Till.mk' hS trivial) ?_
      rotate_left
      · intro W hS; go_simp; all_goals with_reducible rfl
      try simp only [List.setIfInBounds_toArray, List.set_cons_succ, List.set_cons_zero]
      refine reg_take 12 129 3 #[true, true, true, true, true, true, true, true, true, true, true, true, true, false, false, false] (by rfl) (v := ?_) rfl rfl (by kernel_rfl) (by kernel_rfl) (by kernel_rfl) (by kernel_rfl) (fun _ _ _ h => h) (by rfl) ?_ (Till.mk' hS trivial) ?_
      rotate_left
      · intro W hS; go_simp; all_goals with_reducible rfl
      try simp only [List.setIfInBounds_toArray, List.set_cons_succ, List.set_cons_zero]
      refine reg_take 13 130 2 #[true, true, true, true, true, true, true, true, true, true, true, true, true, true, false, false] (by rfl) (v := ?_) rfl rfl (by kernel_rfl) (by kernel_rfl) (by kernel_rfl) (by kernel_rfl) (fun _ _ _ h => h) (by rfl) ?_ (Till.mk' hS trivial) ?_
      rotate_left
      · intro W hS; go_simp; all_goals with_reducible rfl
      try simp only [List.setIfInBounds_toArray, List.set_cons_succ, List.set_cons_zero]
      refine reg_take 14 131 1 #[true, true, true, true, true, true, true, true, true, true, true, true, true, true, true, false] (by rfl) (v := ?_) rfl rfl (by kernel_rfl) (by kernel_rfl) (by kernel_rfl) (by kernel_rfl) (fun _ _ _ h => h) (by rfl) ?_ (Till.mk' hS trivial) ?_
      rotate_left
      · intro W hS; go_simp; all_goals with_reducible rfl
      try simp only [List.setIfInBounds_toArray, List.set_cons_succ, List.set_cons_zero]
      refine reg_take 15 8 0 #[true, true, true, true, true, true, true, true, true, true, true, true, true, true, true, true] (by rfl) (v := ?_) rfl rfl (by kernel_rfl) (by kernel_rfl) (by kernel_rfl) (by kernel_rfl) (fun _ _ _ h => h) (by rfl) ?_ (Till.mk' hS trivial) ?_
      rotate_left
      · intro W hS; go_simp; all_goals with_reducible rfl
      try simp only [List.setIfInBounds_toArray, List.set_cons_succ, List.set_cons_zero]
      refine reg_done (by kernel_rfl) ?_ _
      have bel := (TX.out.trans hS (by simp)).below (Nat.le_refl _) (by simp)
      clear hS
      go_wp2_with fail
      go_ret
      exact ⟨rfl, bel⟩
    ·
      obtain ⟨v9, o9, t0, hgo, hfit, hfc⟩ := HV.out

      have q9 := v9.cell 2
      have f9 := v9.free 2
      simp only [List.getElem?_cons_zero, List.getElem?_cons_succ] at q9
      have v9x := v9.set 2 (.int .i64 z)
      simp only [List.set_cons_succ, List.set_cons_zero] at v9x
      have o9x := ownsRow_setCell_other o9 (a := ⟨p9, 2, none⟩) (by simpa [Value.ownBlock] using hne) (.int .i64 z)
      have tx := t0.setCell (p := ⟨p9, 2, none⟩) (.inr (by simp; omega)) (.int .i64 z)
      have s9x := Sl.of_own o9x
      have hft : (⟨G.name, G.cols, z, G.only⟩ : Sch).fits := ⟨by show G.name.size ≤ _; omega, fun c hc => by obtain ⟨j, hj, rfl⟩ := List.mem_iff_getElem.1 hc; rw [hfc j hj]; omega⟩
      obtain ⟨x, hx⟩ : ∃ x, x = w5.setCell ⟨p9, 2, none⟩ (.int .i64 z) := ⟨_, rfl⟩
      rw [← hx] at v9x s9x tx
      have HX := Lib.hid hx
      clear hx
      have ra := v9x.range 0 4
      rw [List.drop_zero, List.take_of_length_le (by simp)] at ra
      have hsa : (Try.prog.info? 30).map (·.size) = some ([.string (G.name), .slice (some ⟨g, 0, none⟩) (goodL s) cg, .int .i64 z, .bool (s.only)] : List Value).length := by kernel_rfl
      have F1 := Find_any ⟨G.name, G.cols, z, G.only⟩ (some ⟨g, 0, none⟩) (goodL s) cg t x.heap.size x s9x (Nat.le_refl _)
      have F2 := fun (X : World) (tt : Turns [] x X) => refFind_any ⟨G.name, G.cols, z, G.only⟩ (some ⟨g, 0, none⟩) (goodL s) cg t x.heap.size X (by exact tt.slice s9x (Nat.le_refl _) (by simp)) tt.size
      have F3 := fun (X : World) (tt : Turns [] x X) => Check_any ⟨G.name, G.cols, z, G.only⟩ (some ⟨g, 0, none⟩) (goodL s) cg x.heap.size X hft (by exact tt.slice s9x (Nat.le_refl _) (by simp)) tt.size
      have F4 := fun (X : World) (tt : Turns [] x X) => refCheck_any ⟨G.name, G.cols, z, G.only⟩ (some ⟨g, 0, none⟩) (goodL s) cg x.heap.size X hft (by exact tt.slice s9x (Nat.le_refl _) (by simp)) tt.size
      generalize checkS ⟨G.name, G.cols, z, G.only⟩ = ck at F3 F4
      generalize max (findI t (⟨G.name, G.cols, z, G.only⟩ : Sch).cols) 0 = fa at F1 F2
      generalize decide (0 ≤ findI t (⟨G.name, G.cols, z, G.only⟩ : Sch).cols) = fb at F1 F2
      simp only [hgo.1, hgo.2] at F1 F2 F3 F4
      replace F1 := Lib.hid F1
      replace F2 := Lib.hid F2
      replace F3 := Lib.hid F3
      replace F4 := Lib.hid F4
      have TX := Lib.hid tx
      clear v9 o9 t0 v9x s9x tx hgo hfit hfc hft

      go_upto_region 26 with fail
      rw [← HX.out]
      go_wp2_with (first
        | (refine wpList_load_mid rfl 30 (.tmp 9) rfl p9 0 rfl _ _ ra Try.underlying30 rfl hsa ?_)
        | fail)
      refine F1.out.mono ?_
      rintro e x2 ⟨rfl, tt⟩
      have hS := tt
      have rb := rangeT tt ra
      have G2 := Lib.hid (F2.out x2 tt)
      have HT := Lib.hid tt
      clear tt hS
      go_wp2_with (first
        | (refine wpList_load_mid rfl 30 (.tmp 9) rfl p9 0 rfl _ _ rb Try.underlying30 rfl hsa ?_)
        | fail)
      refine G2.out.mono ?_
      rintro e x3 ⟨rfl, tt⟩
      have hS := (HT.out.trans tt (by simp)).drew
      clear tt G2 rb
      go_wp2_with fail
      refine reg_begin (fun W => Turns [] x W) (fun _ => True) 16 16 #[false, false, false, false, false, false, false, false, false, false, false, false, false, false, false, false] (by kernel_rfl) (by kernel_rfl) (by kernel_rfl) ?_
      refine reg_take_y 0 117 15 #[true, false, false, false, false, false, false, false, false, false, false, false, false, false, false, false] (by rfl) rfl rfl (by kernel_rfl) (by kernel_rfl) (by kernel_rfl) (by kernel_rfl) (fun _ _ _ h => h) (yieldsIf_load_mid (by rfl) _ _ rfl p9 0 (by rfl) _ _ (fun W hS => rangeT hS ra) Try.underlying30 rfl hsa) (Till.mk' hS trivial) ?_
      try simp only [List.setIfInBounds_toArray, List.set_cons_succ, List.set_cons_zero]
      refine reg_take_y 2 119 14 #[true, false, true, false, false, false, false, false, false, false, false, false, false, false, false, false] (by rfl) rfl rfl (by kernel_rfl) (by kernel_rfl) (by kernel_rfl) (by kernel_rfl) (fun _ _ _ h => h) (yieldsIf_load_mid (by rfl) _ _ rfl p9 0 (by rfl) _ _ (fun W hS => rangeT hS ra) Try.underlying30 rfl hsa) (Till.mk' hS trivial) ?_
      try simp only [List.setIfInBounds_toArray, List.set_cons_succ, List.set_cons_zero]
      refine reg_one 1 13 #[true, true, true, false, false, false, false, false, false, false, false, false, false, false, false, false] (by kernel_rfl) rfl (by rfl) (by kernel_rfl) (fun K hK => ?_)
      go_simp
      refine (F3.out _ hS).mono ?_
      rintro e x4 ⟨rfl, tt⟩
      have hS := hS.trans tt (by simp)
      clear tt
      refine hK _ _ (Till.mk' hS trivial) ?_
      clear hK K
      try simp only [List.setIfInBounds_toArray, List.set_cons_succ, List.set_cons_zero]
      refine reg_one 3 12 #[true, true, true, true, false, false, false, false, false, false, false, false, false, false, false, false] (by kernel_rfl) rfl (by rfl) (by kernel_rfl) (fun K hK => ?_)
      go_simp
      refine (F4.out _ hS).mono ?_
      rintro e x5 ⟨rfl, tt⟩
      have hS := hS.trans tt (by simp)
      clear tt
      refine hK _ _ (Till.mk' hS trivial) ?_
      clear hK K
      try simp only [List.setIfInBounds_toArray, List.set_cons_succ, List.set_cons_zero]
      refine reg_take 4 121 11 #[true, true, true, true, true, false, false, false, false, false, false, false, false, false, false, false] (by rfl) (v := ?_) rfl rfl (by kernel_rfl) (by kernel_rfl) (by kernel_rfl) (by kernel_rfl) (fun _ _ _ h => h) (by rfl) ?_ (Till.mk' hS trivial) ?_
      rotate_left
      · intro W hS; go_simp; all_goals with_reducible rfl
      try simp only [List.setIfInBounds_toArray, List.set_cons_succ, List.set_cons_zero]
      refine reg_take 5 122 10 #[true, true, true, true, true, true, false, false, false, false, false, false, false, false, false, false] (by rfl) (v := ?_) rfl rfl (by kernel_rfl) (by kernel_rfl) (by kernel_rfl) (by kernel_rfl) (fun _ _ _ h => h) (by rfl) ?_ (Till.mk' hS trivial) ?_
      rotate_left
      · intro W hS; go_simp; all_goals with_reducible rfl
      try simp only [List.setIfInBounds_toArray, List.set_cons_succ, List.set_cons_zero]
      refine reg_take 6 123 9 #[true, true, true, true, true, true, true, false, false, false, false, false, false, false, false, false] (by rfl) (v := ?_) rfl rfl (by kernel_rfl) (by kernel_rfl) (by kernel_rfl) (by kernel_rfl) (fun _ _ _ h => h) (by rfl) ?_ (Till.mk' hS trivial) ?_
      rotate_left
      · intro W hS; go_simp; all_goals with_reducible rfl
      try simp only [List.setIfInBounds_toArray, List.set_cons_succ, List.set_cons_zero]
      refine reg_take 7 124 8 #[true, true, true, true, true, true, true, true, false, false, false, false, false, false, false, false] (by rfl) (v := ?_) rfl rfl (by kernel_rfl) (by kernel_rfl) (by kernel_rfl) (by kernel_rfl) (fun _ _ _ h => h) (by rfl) ?_ (Till.mk' hS trivial) ?_
      rotate_left
      · intro W hS; go_simp; all_goals with_reducible rfl
      try simp only [List.setIfInBounds_toArray, List.set_cons_succ, List.set_cons_zero]
      refine reg_take 8 125 7 #[true, true, true, true, true, true, true, true, true, false, false, false, false, false, false, false] (by rfl) (v := ?_) rfl rfl (by kernel_rfl) (by kernel_rfl) (by kernel_rfl) (by kernel_rfl) (fun _ _ _ h => h) (by rfl) ?_ (Till.mk' hS trivial) ?_
      rotate_left
      · intro W hS; go_simp; all_goals with_reducible rfl
      try simp only [List.setIfInBounds_toArray, List.set_cons_succ, List.set_cons_zero]
      refine reg_take 9 126 6 #[true, true, true, true, true, true, true, true, true, true, false, false, false, false, false, false] (by rfl) (v := ?_) rfl rfl (by kernel_rfl) (by kernel_rfl) (by kernel_rfl) (by kernel_rfl) (fun _ _ _ h => h) (by rfl) ?_ (Till.mk' hS trivial) ?_
      rotate_left
      · intro W hS; go_simp; all_goals with_reducible rfl
      try simp only [List.setIfInBounds_toArray, List.set_cons_succ, List.set_cons_zero]
      refine reg_take 10 127 5 #[true, true, true, true, true, true, true, true, true, true, true, false, false, false, false, false] (by rfl) (v := ?_) rfl rfl (by kernel_rfl) (by kernel_rfl) (by kernel_rfl) (by kernel_rfl) (fun _ _ _ h => h) (by rfl) ?_ (Till.mk' hS trivial) ?_
      rotate_left
      · intro W hS; go_simp; all_goals with_reducible rfl
      try simp only [List.setIfInBounds_toArray, List.set_cons_succ, List.set_cons_zero]
      refine reg_take 11 128 4 #[true, true, true, true, true, true, true, true, true, true, true, true, false, false, false, false] (by rfl) (v := ?_) rfl rfl (by kernel_rfl) (by kernel_rfl) (by kernel_rfl) (by kernel_rfl) (fun _ _ _ h => h) (by rfl) ?_ (Till.mk' hS trivial) ?_
      rotate_left
      · intro W hS; go_simp; all_goals with_reducible rfl
      try simp only [List.setIfInBounds_toArray, List.set_cons_succ, List.set_cons_zero]
      refine reg_take 12 129 3 #[true, true, true, true, true, true, true, true, true, true, true, true, true, false, false, false] (by rfl) (v := ?_) rfl rfl (by kernel_rfl) (by kernel_rfl) (by kernel_rfl) (by kernel_rfl) (fun _ _ _ h => h) (by rfl) ?_ (Till.mk' hS trivial) ?_
      rotate_left
      · intro W hS; go_simp; all_goals with_reducible rfl
      try simp only [List.setIfInBounds_toArray, List.set_cons_succ, List.set_cons_zero]
      refine reg_take 13 130 2 #[true, true, true, true, true, true, true, true, true, true, true, true, true, true, false, false] (by rfl) (v := ?_) rfl rfl (by kernel_rfl) (by kernel_rfl) (by kernel_rfl) (by kernel_rfl) (fun _ _ _ h => h) (by rfl) ?_ (Till.mk' hS trivial) ?_
      rotate_left
      · intro W hS; go_simp; all_goals with_reducible rfl
      try simp only [List.setIfInBounds_toArray, List.set_cons_succ, List.set_cons_zero]
      refine reg_take 14 131 1 #[true, true, true, true, true, true, true, true, true, true, true, true, true, true, true, false] (by rfl) (v := ?_) rfl rfl (by kernel_rfl) (by kernel_rfl) (by kernel_rfl) (by kernel_rfl) (fun _ _ _ h => h) (by rfl) ?_ (Till.mk' hS trivial) ?_
      rotate_left
      · intro W hS; go_simp; all_goals with_reducible rfl
      try simp only [List.setIfInBounds_toArray, List.set_cons_succ, List.set_cons_zero]
      refine reg_take 15 8 0 #[true, true, true, true, true, true, true, true, true, true, true, true, true, true, true, true] (by rfl) (v := ?_) rfl rfl (by kernel_rfl) (by kernel_rfl) (by kernel_rfl) (by kernel_rfl) (fun _ _ _ h => h) (by rfl) ?_ (Till.mk' hS trivial) ?_
      rotate_left
      · intro W hS; go_simp; all_goals with_reducible rfl
      try simp only [List.setIfInBounds_toArray, List.set_cons_succ, List.set_cons_zero]
      refine reg_done (by kernel_rfl) ?_ _
      have bel := (TX.out.trans hS (by simp)).below (Nat.le_refl _) (by simp)
      clear hS
      go_wp2_with fail
      go_ret
      exact ⟨rfl, bel⟩
    ·
      obtain ⟨v9, o9, t0, hgo, hfit, hfc⟩ := HV.out

      obtain ⟨q9, f9⟩ := own_col o9 k 2 hkG (by omega)
      have v9x := v9.other (p := ⟨g, k * 3 + 2, none⟩) hne (.bool (!G.cols[k].null))
      have o9x := (o9.stored (k * 3 + 2) (.bool (!G.cols[k].null))).1
      rw [colCells_renull _ _ hkG] at o9x
      have s9x := Sl.of_own o9x
      have tx := t0.setCell (p := ⟨g, k * 3 + 2, none⟩) (.inr (by have := (o9.lt g rfl).1; simp; omega)) (.bool (!G.cols[k].null))
      simp only [Col.cells, List.getElem?_cons_zero, List.getElem?_cons_succ] at q9
      replace v9x := v9x.drew
      have s9x := Sl.of_own o9x.drew
      replace tx := tx.drew
      have hS5 : Turns [] w5 w5.drew := (Turns.refl _ _).drew
      have hft : (⟨G.name, G.cols.set k (renull G.cols[k] (!G.cols[k].null)), G.key, G.only⟩ : Sch).fits := ⟨by show G.name.size ≤ _; omega, fun c hc => by obtain ⟨j, hj, rfl⟩ := List.mem_iff_getElem.1 hc; rw [List.length_set] at hj; rw [List.getElem_set]; split; (first | exact ht | (have := hfc k hkG; show G.cols[k].name.size ≤ _; omega)); rw [hfc j hj]; omega⟩
      obtain ⟨x, hx⟩ : ∃ x, x = (w5.setCell ⟨g, k * 3 + 2, none⟩ (.bool (!G.cols[k].null))).drew := ⟨_, rfl⟩
      rw [← hx] at v9x s9x tx
      have HX := Lib.hid hx
      clear hx
      have ra := v9x.range 0 4
      rw [List.drop_zero, List.take_of_length_le (by simp)] at ra
      have hsa : (Try.prog.info? 30).map (·.size) = some ([.string (G.name), .slice (some ⟨g, 0, none⟩) (goodL s) cg, .int .i64 (goodKey s : Nat), .bool (s.only)] : List Value).length := by kernel_rfl
      have F1 := Find_any ⟨G.name, G.cols.set k (renull G.cols[k] (!G.cols[k].null)), G.key, G.only⟩ (some ⟨g, 0, none⟩) (goodL s) cg t x.heap.size x s9x (Nat.le_refl _)
      have F2 := fun (X : World) (tt : Turns [] x X) => refFind_any ⟨G.name, G.cols.set k (renull G.cols[k] (!G.cols[k].null)), G.key, G.only⟩ (some ⟨g, 0, none⟩) (goodL s) cg t x.heap.size X (by exact tt.slice s9x (Nat.le_refl _) (by simp)) tt.size
      have F3 := fun (X : World) (tt : Turns [] x X) => Check_any ⟨G.name, G.cols.set k (renull G.cols[k] (!G.cols[k].null)), G.key, G.only⟩ (some ⟨g, 0, none⟩) (goodL s) cg x.heap.size X hft (by exact tt.slice s9x (Nat.le_refl _) (by simp)) tt.size
      have F4 := fun (X : World) (tt : Turns [] x X) => refCheck_any ⟨G.name, G.cols.set k (renull G.cols[k] (!G.cols[k].null)), G.key, G.only⟩ (some ⟨g, 0, none⟩) (goodL s) cg x.heap.size X hft (by exact tt.slice s9x (Nat.le_refl _) (by simp)) tt.size
      generalize checkS ⟨G.name, G.cols.set k (renull G.cols[k] (!G.cols[k].null)), G.key, G.only⟩ = ck at F3 F4
      generalize max (findI t (⟨G.name, G.cols.set k (renull G.cols[k] (!G.cols[k].null)), G.key, G.only⟩ : Sch).cols) 0 = fa at F1 F2
      generalize decide (0 ≤ findI t (⟨G.name, G.cols.set k (renull G.cols[k] (!G.cols[k].null)), G.key, G.only⟩ : Sch).cols) = fb at F1 F2
      simp only [hgo.1, hgo.2] at F1 F2 F3 F4
      replace F1 := Lib.hid F1
      replace F2 := Lib.hid F2
      replace F3 := Lib.hid F3
      replace F4 := Lib.hid F4
      have TX := Lib.hid tx
      clear v9 o9 t0 v9x s9x tx hgo hfit hfc hft

      go_upto_region 21 with fail
      refine reg_begin (fun _ => True) (fun W => Turns [] w5 W) 12 13 #[false, false, false, false, false, false, false, false, false, false, false, false, false] (by kernel_rfl) (by kernel_rfl) (by kernel_rfl) ?_
      refine reg_take 0 78 12 #[true, false, false, false, false, false, false, false, false, false, false, false, false] (by rfl) (v := ?_) rfl rfl (by kernel_rfl) (by kernel_rfl) (by kernel_rfl) (by kernel_rfl) (fun _ _ _ h => h) (by rfl) ?_ (Till.mk' trivial hS5) ?_
      rotate_left
      · intro W hS; go_simp; all_goals with_reducible rfl
      try simp only [List.setIfInBounds_toArray, List.set_cons_succ, List.set_cons_zero]
      refine reg_take_t 1 79 11 #[true, true, false, false, false, false, false, false, false, false, false, false, false] (by rfl) (v := ?_) rfl rfl (by kernel_rfl) (by kernel_rfl) (by kernel_rfl) (by kernel_rfl) (fun _ _ _ h => h) (by rfl) (by kernel_rfl) (by kernel_rfl) ?_ (Till.mk' trivial hS5) ?_
      rotate_left
      · rintro W ⟨-, hS⟩; have c2 := cellT hS k9; go_simp; all_goals with_reducible rfl
      try simp only [List.setIfInBounds_toArray, List.set_cons_succ, List.set_cons_zero]
      refine reg_take 2 80 10 #[true, true, true, false, false, false, false, false, false, false, false, false, false] (by rfl) (v := ?_) rfl rfl (by kernel_rfl) (by kernel_rfl) (by kernel_rfl) (by kernel_rfl) (fun _ _ _ h => h) (by rfl) ?_ (Till.mk' trivial hS5) ?_
      rotate_left
      · intro W hS; go_simp; all_goals with_reducible rfl
      try simp only [List.setIfInBounds_toArray, List.set_cons_succ, List.set_cons_zero]
      refine reg_take 3 81 9 #[true, true, true, true, false, false, false, false, false, false, false, false, false] (by rfl) (v := ?_) rfl rfl (by kernel_rfl) (by kernel_rfl) (by kernel_rfl) (by kernel_rfl) (fun _ _ _ h => h) (by rfl) ?_ (Till.mk' trivial hS5) ?_
      rotate_left
      · intro W hS; go_simp; all_goals with_reducible rfl
      try simp only [List.setIfInBounds_toArray, List.set_cons_succ, List.set_cons_zero]
      refine reg_take_t 4 82 8 #[true, true, true, true, true, false, false, false, false, false, false, false, false] (by rfl) (v := ?_) rfl rfl (by kernel_rfl) (by kernel_rfl) (by kernel_rfl) (by kernel_rfl) (fun _ _ _ h => h) (by rfl) (by kernel_rfl) (by kernel_rfl) ?_ (Till.mk' trivial hS5) ?_
      rotate_left
      · rintro W ⟨-, hS⟩; have c2 := cellT hS k9; go_simp; all_goals with_reducible rfl
      try simp only [List.setIfInBounds_toArray, List.set_cons_succ, List.set_cons_zero]
      refine reg_take 5 83 7 #[true, true, true, true, true, true, false, false, false, false, false, false, false] (by rfl) (v := ?_) rfl rfl (by kernel_rfl) (by kernel_rfl) (by kernel_rfl) (by kernel_rfl) (fun _ _ _ h => h) (by rfl) ?_ (Till.mk' trivial hS5) ?_
      rotate_left
      · intro W hS; go_simp; all_goals with_reducible rfl
      try simp only [List.setIfInBounds_toArray, List.set_cons_succ, List.set_cons_zero]
      refine reg_take 6 84 6 #[true, true, true, true, true, true, true, false, false, false, false, false, false] (by rfl) (v := ?_) rfl rfl (by kernel_rfl) (by kernel_rfl) (by kernel_rfl) (by kernel_rfl) (fun _ _ _ h => h) (by rfl) ?_ (Till.mk' trivial hS5) ?_
      rotate_left
      · intro W hS; go_simp; all_goals with_reducible rfl
      try simp only [List.setIfInBounds_toArray, List.set_cons_succ, List.set_cons_zero]
      refine reg_take 7 85 5 #[true, true, true, true, true, true, true, true, false, false, false, false, false] (by rfl) (v := ?_) rfl rfl (by kernel_rfl) (by kernel_rfl) (by kernel_rfl) (by kernel_rfl) (fun _ _ _ h => h) (by rfl) ?_ (Till.mk' trivial hS5) ?_
      rotate_left
      · intro W hS; go_simp; all_goals with_reducible rfl
      try simp only [List.setIfInBounds_toArray, List.set_cons_succ, List.set_cons_zero]
      refine reg_take_t 8 86 4 #[true, true, true, true, true, true, true, true, true, false, false, false, false] (by rfl) (v := ?_) rfl rfl (by kernel_rfl) (by kernel_rfl) (by kernel_rfl) (by kernel_rfl) (fun _ _ _ h => h) (by rfl) (by kernel_rfl) (by kernel_rfl) ?_ (Till.mk' trivial hS5) ?_
      rotate_left
      · rintro W ⟨-, hS⟩; have c2 := cellT hS q9; go_simp; all_goals with_reducible rfl
      try simp only [List.setIfInBounds_toArray, List.set_cons_succ, List.set_cons_zero]
      refine reg_take 9 87 3 #[true, true, true, true, true, true, true, true, true, true, false, false, false] (by rfl) (v := ?_) rfl rfl (by kernel_rfl) (by kernel_rfl) (by kernel_rfl) (by kernel_rfl) (fun _ _ _ h => h) (by rfl) ?_ (Till.mk' trivial hS5) ?_
      rotate_left
      · intro W hS; go_simp; all_goals with_reducible rfl
      try simp only [List.setIfInBounds_toArray, List.set_cons_succ, List.set_cons_zero]
      refine reg_take 10 88 2 #[true, true, true, true, true, true, true, true, true, true, true, false, false] (by rfl) (v := ?_) rfl rfl (by kernel_rfl) (by kernel_rfl) (by kernel_rfl) (by kernel_rfl) (fun _ _ _ h => h) (by rfl) ?_ (Till.mk' trivial hS5) ?_
      rotate_left
      · intro W hS; go_simp; all_goals with_reducible rfl
      try simp only [List.setIfInBounds_toArray, List.set_cons_succ, List.set_cons_zero]
      refine reg_take 11 89 1 #[true, true, true, true, true, true, true, true, true, true, true, true, false] (by rfl) (v := ?_) rfl rfl (by kernel_rfl) (by kernel_rfl) (by kernel_rfl) (by kernel_rfl) (fun _ _ _ h => h) (by rfl) ?_ (Till.mk' trivial hS5) ?_
      rotate_left
      · intro W hS; go_simp; all_goals with_reducible rfl
      try simp only [List.setIfInBounds_toArray, List.set_cons_succ, List.set_cons_zero]
      refine reg_one 12 0 #[true, true, true, true, true, true, true, true, true, true, true, true, true] (by kernel_rfl) rfl (by rfl) (by kernel_rfl) (fun K hK => ?_)
      go_simp
      refine hK _ _ (Till.past trivial (by kernel_rfl)) ?_
      clear hK K
      try simp only [List.setIfInBounds_toArray, List.set_cons_succ, List.set_cons_zero]
      refine reg_done (by kernel_rfl) ?_ _
      go_upto_region 26 with fail
      rw [← HX.out]
      go_wp2_with (first
        | (refine wpList_load_mid rfl 30 (.tmp 9) rfl p9 0 rfl _ _ ra Try.underlying30 rfl hsa ?_)
        | fail)
      refine F1.out.mono ?_
      rintro e x2 ⟨rfl, tt⟩
      have hS := tt
      have rb := rangeT tt ra
      have G2 := Lib.hid (F2.out x2 tt)
      have HT := Lib.hid tt
      clear tt hS
      go_wp2_with (first
        | (refine wpList_load_mid rfl 30 (.tmp 9) rfl p9 0 rfl _ _ rb Try.underlying30 rfl hsa ?_)
        | fail)
      refine G2.out.mono ?_
      rintro e x3 ⟨rfl, tt⟩
      have hS := (HT.out.trans tt (by simp)).drew
      clear tt G2 rb
      go_wp2_with fail
      refine reg_begin (fun W => Turns [] x W) (fun _ => True) 16 16 #[false, false, false, false, false, false, false, false, false, false, false, false, false, false, false, false] (by kernel_rfl) (by kernel_rfl) (by kernel_rfl) ?_
      refine reg_take_y 0 117 15 #[true, false, false, false, false, false, false, false, false, false, false, false, false, false, false, false] (by rfl) rfl rfl (by kernel_rfl) (by kernel_rfl) (by kernel_rfl) (by kernel_rfl) (fun _ _ _ h => h) (yieldsIf_load_mid (by rfl) _ _ rfl p9 0 (by rfl) _ _ (fun W hS => rangeT hS ra) Try.underlying30 rfl hsa) (Till.mk' hS trivial) ?_
      try simp only [List.setIfInBounds_toArray, List.set_cons_succ, List.set_cons_zero]
      refine reg_take_y 2 119 14 #[true, false, true, false, false, false, false, false, false, false, false, false, false, false, false, false] (by rfl) rfl rfl (by kernel_rfl) (by kernel_rfl) (by kernel_rfl) (by kernel_rfl) (fun _ _ _ h => h) (yieldsIf_load_mid (by rfl) _ _ rfl p9 0 (by rfl) _ _ (fun W hS => rangeT hS ra) Try.underlying30 rfl hsa) (Till.mk' hS trivial) ?_
      try simp only [List.setIfInBounds_toArray, List.set_cons_succ, List.set_cons_zero]
      refine reg_one 1 13 #[true, true, true, false, false, false, false, false, false, false, false, false, false, false, false, false] (by kernel_rfl) rfl (by rfl) (by kernel_rfl) (fun K hK => ?_)
      go_simp
      refine (F3.out _ hS).mono ?_
      rintro e x4 ⟨rfl, tt⟩
      have hS := hS.trans tt (by simp)
      clear tt
      refine hK _ _ (Till.mk' hS trivial) ?_
      clear hK K
      try simp only [List.setIfInBounds_toArray, List.set_cons_succ, List.set_cons_zero]
      refine reg_one 3 12 #[true, true, true, true, false, false, false, false, false, false, false, false, false, false, false, false] (by kernel_rfl) rfl (by rfl) (by kernel_rfl) (fun K hK => ?_)
      go_simp
      refine (F4.out _ hS).mono ?_
      rintro e x5 ⟨rfl, tt⟩
      have hS := hS.trans tt (by simp)
      clear tt
      refine hK _ _ (Till.mk' hS trivial) ?_
      clear hK K
      try simp only [List.setIfInBounds_toArray, List.set_cons_succ, List.set_cons_zero]
      refine reg_take 4 121 11 #[true, true, true, true, true, false, false, false, false, false, false, false, false, false, false, false] (by rfl) (v := ?_) rfl rfl (by kernel_rfl) (by kernel_rfl) (by kernel_rfl) (by kernel_rfl) (fun _ _ _ h => h) (by rfl) ?_ (Till.mk' hS trivial) ?_
      rotate_left
      · intro W hS; go_simp; all_goals with_reducible rfl
      try simp only [List.setIfInBounds_toArray, List.set_cons_succ, List.set_cons_zero]
      refine reg_take 5 122 10 #[true, true, true, true, true, true, false, false, false, false, false, false, false, false, false, false] (by rfl) (v := ?_) rfl rfl (by kernel_rfl) (by kernel_rfl) (by kernel_rfl) (by kernel_rfl) (fun _ _ _ h => h) (by rfl) ?_ (Till.mk' hS trivial) ?_
      rotate_left
      · intro W hS; go_simp; all_goals with_reducible rfl
      try simp only [List.setIfInBounds_toArray, List.set_cons_succ, List.set_cons_zero]
      refine reg_take 6 123 9 #[true, true, true, true, true, true, true, false, false, false, false, false, false, false, false, false] (by rfl) (v := ?_) rfl rfl (by kernel_rfl) (by kernel_rfl) (by kernel_rfl) (by kernel_rfl) (fun _ _ _ h => h) (by rfl) ?_ (Till.mk' hS trivial) ?_
      rotate_left
      · intro W hS; go_simp; all_goals with_reducible rfl
      try simp only [List.setIfInBounds_toArray, List.set_cons_succ, List.set_cons_zero]
      refine reg_take 7 124 8 #[true, true, true, true, true, true, true, true, false, false, false, false, false, false, false, false] (by rfl) (v := ?_) rfl rfl (by kernel_rfl) (by kernel_rfl) (by kernel_rfl) (by kernel_rfl) (fun _ _ _ h => h) (by rfl) ?_ (Till.mk' hS trivial) ?_
      rotate_left
      · intro W hS; go_simp; all_goals with_reducible rfl
      try simp only [List.setIfInBounds_toArray, List.set_cons_succ, List.set_cons_zero]
      refine reg_take 8 125 7 #[true, true, true, true, true, true, true, true, true, false, false, false, false, false, false, false] (by rfl) (v := ?_) rfl rfl (by kernel_rfl) (by kernel_rfl) (by kernel_rfl) (by kernel_rfl) (fun _ _ _ h => h) (by rfl) ?_ (Till.mk' hS trivial) ?_
      rotate_left
      · intro W hS; go_simp; all_goals with_reducible rfl
      try simp only [List.setIfInBounds_toArray, List.set_cons_succ, List.set_cons_zero]
      refine reg_take 9 126 6 #[true, true, true, true, true, true, true, true, true, true, false, false, false, false, false, false] (by rfl) (v := ?_) rfl rfl (by kernel_rfl) (by kernel_rfl) (by kernel_rfl) (by kernel_rfl) (fun _ _ _ h => h) (by rfl) ?_ (Till.mk' hS trivial) ?_
      rotate_left
      · intro W hS; go_simp; all_goals with_reducible rfl
      try simp only [List.setIfInBounds_toArray, List.set_cons_succ, List.set_cons_zero]
      refine reg_take 10 127 5 #[true, true, true, true, true, true, true, true, true, true, true, false, false, false, false, false] (by rfl) (v := ?_) rfl rfl (by kernel_rfl) (by kernel_rfl) (by kernel_rfl) (by kernel_rfl) (fun _ _ _ h => h) (by rfl) ?_ (Till.mk' hS trivial) ?_
      rotate_left
      · intro W hS; go_simp; all_goals with_reducible rfl
      try simp only [List.setIfInBounds_toArray, List.set_cons_succ, List.set_cons_zero]
      refine reg_take 11 128 4 #[true, true, true, true, true, true, true, true, true, true, true, true, false, false, false, false] (by rfl) (v := ?_) rfl rfl (by kernel_rfl) (by kernel_rfl) (by kernel_rfl) (by kernel_rfl) (fun _ _ _ h => h) (by rfl) ?_ (Till.mk' hS trivial) ?_
      rotate_left
      · intro W hS; go_simp; all_goals with_reducible rfl
      try simp only [List.setIfInBounds_toArray, List.set_cons_succ, List.set_cons_zero]
      refine reg_take 12 129 3 #[true, true, true, true, true, true, true, true, true, true, true, true, true, false, false, false] (by rfl) (v := ?_) rfl rfl (by kernel_rfl) (by kernel_rfl) (by kernel_rfl) (by kernel_rfl) (fun _ _ _ h => h) (by rfl) ?_ (Till.mk' hS trivial) ?_
      rotate_left
      · intro W hS; go_simp; all_goals with_reducible rfl
      try simp only [List.setIfInBounds_toArray, List.set_cons_succ, List.set_cons_zero]
      refine reg_take 13 130 2 #[true, true, true, true, true, true, true, true, true, true, true, true, true, true, false, false] (by rfl) (v := ?_) rfl rfl (by kernel_rfl) (by kernel_rfl) (by kernel_rfl) (by kernel_rfl) (fun _ _ _ h => h) (by rfl) ?_ (Till.mk' hS trivial) ?_
      rotate_left
      · intro W hS; go_simp; all_goals with_reducible rfl
      try simp only [List.setIfInBounds_toArray, List.set_cons_succ, List.set_cons_zero]
      refine reg_take 14 131 1 #[true, true, true, true, true, true, true, true, true, true, true, true, true, true, true, false] (by rfl) (v := ?_) rfl rfl (by kernel_rfl) (by kernel_rfl) (by kernel_rfl) (by kernel_rfl) (fun _ _ _ h => h) (by rfl) ?_ (Till.mk' hS trivial) ?_
      rotate_left
      · intro W hS; go_simp; all_goals with_reducible rfl
      try simp only [List.setIfInBounds_toArray, List.set_cons_succ, List.set_cons_zero]
      refine reg_take 15 8 0 #[true, true, true, true, true, true, true, true, true, true, true, true, true, true, true, true] (by rfl) (v := ?_) rfl rfl (by kernel_rfl) (by kernel_rfl) (by kernel_rfl) (by kernel_rfl) (fun _ _ _ h => h) (by rfl) ?_ (Till.mk' hS trivial) ?_
      rotate_left
      · intro W hS; go_simp; all_goals with_reducible rfl
      try simp only [List.setIfInBounds_toArray, List.set_cons_succ, List.set_cons_zero]
      refine reg_done (by kernel_rfl) ?_ _
      have bel := (TX.out.trans hS (by simp)).below (Nat.le_refl _) (by simp)
      clear hS
      go_wp2_with fail
      go_ret
      exact ⟨rfl, bel⟩
    ·
      obtain ⟨v9, o9, t0, hgo, hfit, hfc⟩ := HV.out
      obtain ⟨nm, hnm⟩ : ∃ nm, nm = G.cols[k].name := ⟨_, rfl⟩
      obtain ⟨kd, hkd⟩ : ∃ kd, kd = G.cols[k].kind := ⟨_, rfl⟩
      obtain ⟨nl, hnl⟩ : ∃ nl, nl = G.cols[k].null := ⟨_, rfl⟩
      have hgr := (o9.lt g rfl).1
      have rgk : w5.rangeAt g (k * 3) [.string nm, .int .i64 kd, .bool nl] := by
        obtain ⟨b', off', e, rr⟩ := col_range (Sl.of_own o9) k hkG
        injection e with e
        injection e with e1 e2
        rw [← e1, ← e2, Nat.zero_add] at rr
        rw [hnm, hkd, hnl]
        exact rr
      have hszc : (Try.prog.info? 27).map (·.size) = some ([.string nm, .int .i64 kd, .bool nl] : List Value).length := T27i
      have hcc := Lib.hid (show colCells (G.cols ++ [G.cols[k]]) = colCells G.cols ++ [.string nm, .int .i64 kd, .bool nl] by rw [colCells_app, hnm, hkd, hnl]; rfl)
      have hlast := Lib.hid (show G.cols[k].name.size ≤ 9223372036854775807 by rw [hfc k hkG]; omega)
      have HCK := Lib.hid (And.intro hgo (And.intro hfit hfc))
      have HN := Lib.hid (show G.cols[k].cells = [.string nm, .int .i64 kd, .bool nl] by rw [hnm, hkd, hnl]; rfl)
      clear hnm hkd hnl hgo hfit hfc
      go_upto_region 23 with fail
      obtain ⟨y0, hy0⟩ : ∃ y0, y0 = w5.drew := ⟨_, rfl⟩
      have hS : Turns [] w5 y0 := by rw [hy0]; exact (Turns.refl _ _).drew
      replace v9 := v9.drew
      replace o9 := o9.drew
      replace t0 := t0.drew
      rw [← hy0] at v9 o9 t0
      have HY0 := Lib.hid hy0
      have hzy := t0.size
      have hR := rangeT hS rgk
      have kT := cellT hS k9
      clear hy0 hS
      refine reg_begin (fun W => W.rangeAt g (k * 3) [.string nm, .int .i64 kd, .bool nl]) (fun W => W.cell? ⟨p9, 1, none⟩ = some (.slice (some ⟨g, 0, none⟩) (goodL s) cg)) 10 11 #[false, false, false, false, false, false, false, false, false, false, false] (by kernel_rfl) (by kernel_rfl) (by kernel_rfl) ?_
      rw [← HY0.out]
      refine reg_take 0 92 10 #[true, false, false, false, false, false, false, false, false, false, false] (by rfl) (v := ?_) rfl rfl (by kernel_rfl) (by kernel_rfl) (by kernel_rfl) (by kernel_rfl) (fun _ _ _ h => h) (by rfl) ?_ (Till.mk' hR kT) ?_
      rotate_left
      · intro W hS; go_simp; all_goals with_reducible rfl
      try simp only [List.setIfInBounds_toArray, List.set_cons_succ, List.set_cons_zero]
      refine reg_take_t 1 93 9 #[true, true, false, false, false, false, false, false, false, false, false] (by rfl) (v := ?_) rfl rfl (by kernel_rfl) (by kernel_rfl) (by kernel_rfl) (by kernel_rfl) (fun _ _ _ h => h) (by rfl) (by kernel_rfl) (by kernel_rfl) ?_ (Till.mk' hR kT) ?_
      rotate_left
      · rintro W ⟨-, c2⟩; go_simp; all_goals with_reducible rfl
      try simp only [List.setIfInBounds_toArray, List.set_cons_succ, List.set_cons_zero]
      refine reg_take 2 94 8 #[true, true, true, false, false, false, false, false, false, false, false] (by rfl) (v := ?_) rfl rfl (by kernel_rfl) (by kernel_rfl) (by kernel_rfl) (by kernel_rfl) (fun _ _ _ h => h) (by rfl) ?_ (Till.mk' hR kT) ?_
      rotate_left
      · intro W hS; go_simp; all_goals with_reducible rfl
      try simp only [List.setIfInBounds_toArray, List.set_cons_succ, List.set_cons_zero]
      refine reg_take_t 3 95 7 #[true, true, true, true, false, false, false, false, false, false, false] (by rfl) (v := ?_) rfl rfl (by kernel_rfl) (by kernel_rfl) (by kernel_rfl) (by kernel_rfl) (fun _ _ _ h => h) (by rfl) (by kernel_rfl) (by kernel_rfl) ?_ (Till.mk' hR kT) ?_
      rotate_left
      · rintro W ⟨-, c2⟩; go_simp; all_goals with_reducible rfl
      try simp only [List.setIfInBounds_toArray, List.set_cons_succ, List.set_cons_zero]
      refine reg_take 4 96 6 #[true, true, true, true, true, false, false, false, false, false, false] (by rfl) (v := ?_) rfl rfl (by kernel_rfl) (by kernel_rfl) (by kernel_rfl) (by kernel_rfl) (fun _ _ _ h => h) (by rfl) ?_ (Till.mk' hR kT) ?_
      rotate_left
      · intro W hS; go_simp; all_goals with_reducible rfl
      try simp only [List.setIfInBounds_toArray, List.set_cons_succ, List.set_cons_zero]
      refine reg_take 5 97 5 #[true, true, true, true, true, true, false, false, false, false, false] (by rfl) (v := ?_) rfl rfl (by kernel_rfl) (by kernel_rfl) (by kernel_rfl) (by kernel_rfl) (fun _ _ _ h => h) (by rfl) ?_ (Till.mk' hR kT) ?_
      rotate_left
      · intro W hS; go_simp; all_goals with_reducible rfl
      try simp only [List.setIfInBounds_toArray, List.set_cons_succ, List.set_cons_zero]
      refine reg_take_y 6 98 4 #[true, true, true, true, true, true, true, false, false, false, false] (by rfl) rfl rfl (by kernel_rfl) (by kernel_rfl) (by kernel_rfl) (by kernel_rfl) (fun _ _ _ h => h) (yieldsIf_load_mid (by rfl) _ _ rfl g (k * 3) (by rfl) _ _ (fun W hS => hS) Try.underlying27 rfl hszc) (Till.mk' hR kT) ?_
      try simp only [List.setIfInBounds_toArray, List.set_cons_succ, List.set_cons_zero]
      refine reg_one 7 3 #[true, true, true, true, true, true, true, true, false, false, false] (by kernel_rfl) rfl (by rfl) (by kernel_rfl) (fun K hK => ?_)
      go_simp
      obtain ⟨y1, hy1⟩ : ∃ y1, y1 = y0.alloc (.cells #[.string nm, .int .i64 kd, .bool nl] 27) := ⟨_, rfl⟩
      have t1 := t0.alloc (.cells #[.string nm, .int .i64 kd, .bool nl] 27)
      have v9 := v9.alloc (.cells #[.string nm, .int .i64 kd, .bool nl] 27)
      obtain ⟨v7, y2, hr7, ap⟩ := run_append_rd (P := Try.prog) _ T28 28 (o9.alloc (.cells #[.string nm, .int .i64 kd, .bool nl] 27)) (Sl.new y0 #[.string nm, .int .i64 kd, .bool nl] 27 1 3 rfl (by simp [maxLen])) (by intro u hu; simp at hu; rcases hu with rfl | rfl | rfl <;> rfl) (by simp only [maxLen]; omega) (by omega) (by have := o9.lt g rfl; simp; omega)
      rw [← hy1] at t1 v9 hr7 ap
      obtain ⟨A7, c7, rfl⟩ := own_form' ap.own
      have v9y := apd_blk' ap v9 (by simpa [Value.ownBlock] using hne)
      have q9 := v9y.cell 1
      have f9 := v9y.free 1
      simp only [List.getElem?_cons_zero, List.getElem?_cons_succ] at q9
      have hne7 : (Value.slice A7 (goodL s + 1) c7).ownBlock ≠ some p9 := by
        rcases ap.lies with h | ⟨g', h, hge⟩
        · rw [h]; simpa [Value.ownBlock] using hne
        · rw [h]; intro e; injection e with e; have := v9.lt; omega
      have tg : Turns [g] y1 y2 := Turns.of_grown ap.grown (by intro x hx; simp [Value.ownBlock] at hx; simp [hx])
      have t2 := t1.trans tg (by intro x hx; simp at hx; exact .inr (by omega))
      rw [← hy1]
      have ty : Turns [] y0 y1 := by rw [hy1]; exact (Turns.refl _ _).alloc _
      have hR := rangeT ty hR
      have kT := cellT ty kT
      have hR2 : y2.rangeAt g (k * 3) [.string nm, .int .i64 kd, .bool nl] := by
        obtain ⟨b', off', e, rr⟩ := col_range (Sl.of_own ap.old) k hkG
        injection e with e
        injection e with e1 e2
        rw [← e1, ← e2, Nat.zero_add] at rr
        have h3 := HN.out
        rw [h3] at rr
        exact rr
      have hR3 : (y2.setCell ⟨p9, 1, none⟩ (.slice A7 (goodL s + 1) c7)).rangeAt g (k * 3) [.string nm, .int .i64 kd, .bool nl] := fun j v hj => by
        have := hR2 j v hj
        rw [World.cell?_setCell_other _ _ _ _ (by intro e; injection e with e _; exact hne e.symm)]
        exact this
      have HY1 := Lib.hid hy1
      clear hy1
      refine hK _ _ (Till.mk' hR kT) ?_
      clear hK K
      try simp only [List.setIfInBounds_toArray, List.set_cons_succ, List.set_cons_zero]
      refine reg_one 8 2 #[true, true, true, true, true, true, true, true, true, false, false] (by kernel_rfl) rfl (by rfl) (by kernel_rfl) (fun K hK => ?_)
      refine wp_append_run _ (.tmp 93) (.tmp 99) rfl (by rfl) (by rfl) (R := fun v w' => .slice A7 (goodL s + 1) c7 = v ∧ y2 = w') ⟨_, _, hr7, rfl, rfl⟩ ?_
      rintro _ _ ⟨rfl, rfl⟩
      refine hK _ _ (Till.mk' hR2 q9) ?_
      clear hK K
      try simp only [List.setIfInBounds_toArray, List.set_cons_succ, List.set_cons_zero]
      refine reg_take 9 101 1 #[true, true, true, true, true, true, true, true, true, true, false] (by rfl) (v := ?_) rfl rfl (by kernel_rfl) (by kernel_rfl) (by kernel_rfl) (by kernel_rfl) (fun _ _ _ h => h) (by rfl) ?_ (Till.mk' hR2 q9) ?_
      rotate_left
      · intro W hS; go_simp; all_goals with_reducible rfl
      try simp only [List.setIfInBounds_toArray, List.set_cons_succ, List.set_cons_zero]
      refine reg_one 10 0 #[true, true, true, true, true, true, true, true, true, true, true] (by kernel_rfl) rfl (by rfl) (by kernel_rfl) (fun K hK => ?_)
      go_simp
      refine hK _ _ (Till.past hR3 (by kernel_rfl)) ?_
      clear hK K
      try simp only [List.setIfInBounds_toArray, List.set_cons_succ, List.set_cons_zero]
      refine reg_done (by kernel_rfl) ?_ _
      obtain ⟨hgo, hfit, hfc⟩ := HCK.out
      have v9x := v9y.set 1 (.slice A7 (goodL s + 1) c7)
      simp only [List.set_cons_succ, List.set_cons_zero] at v9x
      have o9x := ownsRow_setCell_other ap.own (a := ⟨p9, 1, none⟩) hne7 (.slice A7 (goodL s + 1) c7)
      rw [← hcc.out] at o9x
      have s9x := Sl.of_own o9x
      have tx := t2.setCell (p := ⟨p9, 1, none⟩) (.inr (by simp; omega)) (.slice A7 (goodL s + 1) c7)
      have hft : (⟨G.name, G.cols ++ [G.cols[k]], G.key, G.only⟩ : Sch).fits := ⟨by show G.name.size ≤ _; omega, fun c hc => by simp only [List.mem_append, List.mem_singleton] at hc; rcases hc with hc | rfl; (obtain ⟨j, hj, rfl⟩ := List.mem_iff_getElem.1 hc; rw [hfc j hj]; omega); exact hlast.out⟩
      clear ap v9y o9 v9 tg t1 t2 hr7

      obtain ⟨x, hx⟩ : ∃ x, x = y2.setCell ⟨p9, 1, none⟩ (.slice A7 (goodL s + 1) c7) := ⟨_, rfl⟩
      rw [← hx] at v9x s9x tx
      have HX := Lib.hid hx
      clear hx
      have ra := v9x.range 0 4
      rw [List.drop_zero, List.take_of_length_le (by simp)] at ra
      have hsa : (Try.prog.info? 30).map (·.size) = some ([.string (G.name), .slice A7 (goodL s + 1) c7, .int .i64 (goodKey s : Nat), .bool (s.only)] : List Value).length := by kernel_rfl
      have F1 := Find_any ⟨G.name, G.cols ++ [G.cols[k]], G.key, G.only⟩ A7 (goodL s + 1) c7 t x.heap.size x s9x (Nat.le_refl _)
      have F2 := fun (X : World) (tt : Turns [] x X) => refFind_any ⟨G.name, G.cols ++ [G.cols[k]], G.key, G.only⟩ A7 (goodL s + 1) c7 t x.heap.size X (by exact tt.slice s9x (Nat.le_refl _) (by simp)) tt.size
      have F3 := fun (X : World) (tt : Turns [] x X) => Check_any ⟨G.name, G.cols ++ [G.cols[k]], G.key, G.only⟩ A7 (goodL s + 1) c7 x.heap.size X hft (by exact tt.slice s9x (Nat.le_refl _) (by simp)) tt.size
      have F4 := fun (X : World) (tt : Turns [] x X) => refCheck_any ⟨G.name, G.cols ++ [G.cols[k]], G.key, G.only⟩ A7 (goodL s + 1) c7 x.heap.size X hft (by exact tt.slice s9x (Nat.le_refl _) (by simp)) tt.size
      generalize checkS ⟨G.name, G.cols ++ [G.cols[k]], G.key, G.only⟩ = ck at F3 F4
      generalize max (findI t (⟨G.name, G.cols ++ [G.cols[k]], G.key, G.only⟩ : Sch).cols) 0 = fa at F1 F2
      generalize decide (0 ≤ findI t (⟨G.name, G.cols ++ [G.cols[k]], G.key, G.only⟩ : Sch).cols) = fb at F1 F2
      simp only [hgo.1, hgo.2] at F1 F2 F3 F4
      replace F1 := Lib.hid F1
      replace F2 := Lib.hid F2
      replace F3 := Lib.hid F3
      replace F4 := Lib.hid F4
      have TX := Lib.hid tx
      clear t0 v9x s9x tx hgo hfit hfc hft


      rw [← HX.out]
      go_wp2_with (first
        | (refine wpList_load_mid rfl 30 (.tmp 9) rfl p9 0 rfl _ _ ra Try.underlying30 rfl hsa ?_)
        | fail)
      refine F1.out.mono ?_
      rintro e x2 ⟨rfl, tt⟩
      have hS := tt
      have rb := rangeT tt ra
      have G2 := Lib.hid (F2.out x2 tt)
      have HT := Lib.hid tt
      clear tt hS
      go_wp2_with (first
        | (refine wpList_load_mid rfl 30 (.tmp 9) rfl p9 0 rfl _ _ rb Try.underlying30 rfl hsa ?_)
        | fail)
      refine G2.out.mono ?_
      rintro e x3 ⟨rfl, tt⟩
      have hS := (HT.out.trans tt (by simp)).drew
      clear tt G2 rb
      go_wp2_with fail
      refine reg_begin (fun W => Turns [] x W) (fun _ => True) 16 16 #[false, false, false, false, false, false, false, false, false, false, false, false, false, false, false, false] (by kernel_rfl) (by kernel_rfl) (by kernel_rfl) ?_
      refine reg_take_y 0 117 15 #[true, false, false, false, false, false, false, false, false, false, false, false, false, false, false, false] (by rfl) rfl rfl (by kernel_rfl) (by kernel_rfl) (by kernel_rfl) (by kernel_rfl) (fun _ _ _ h => h) (yieldsIf_load_mid (by rfl) _ _ rfl p9 0 (by rfl) _ _ (fun W hS => rangeT hS ra) Try.underlying30 rfl hsa) (Till.mk' hS trivial) ?_
      try simp only [List.setIfInBounds_toArray, List.set_cons_succ, List.set_cons_zero]
      refine reg_take_y 2 119 14 #[true, false, true, false, false, false, false, false, false, false, false, false, false, false, false, false] (by rfl) rfl rfl (by kernel_rfl) (by kernel_rfl) (by kernel_rfl) (by kernel_rfl) (fun _ _ _ h => h) (yieldsIf_load_mid (by rfl) _ _ rfl p9 0 (by rfl) _ _ (fun W hS => rangeT hS ra) Try.underlying30 rfl hsa) (Till.mk' hS trivial) ?_
      try simp only [List.setIfInBounds_toArray, List.set_cons_succ, List.set_cons_zero]
      refine reg_one 1 13 #[true, true, true, false, false, false, false, false, false, false, false, false, false, false, false, false] (by kernel_rfl) rfl (by rfl) (by kernel_rfl) (fun K hK => ?_)
      go_simp
      refine (F3.out _ hS).mono ?_
      rintro e x4 ⟨rfl, tt⟩
      have hS := hS.trans tt (by simp)
      clear tt
      refine hK _ _ (Till.mk' hS trivial) ?_
      clear hK K
      try simp only [List.setIfInBounds_toArray, List.set_cons_succ, List.set_cons_zero]
      refine reg_one 3 12 #[true, true, true, true, false, false, false, false, false, false, false, false, false, false, false, false] (by kernel_rfl) rfl (by rfl) (by kernel_rfl) (fun K hK => ?_)
      go_simp
      refine (F4.out _ hS).mono ?_
      rintro e x5 ⟨rfl, tt⟩
      have hS := hS.trans tt (by simp)
      clear tt
      refine hK _ _ (Till.mk' hS trivial) ?_
      clear hK K
      try simp only [List.setIfInBounds_toArray, List.set_cons_succ, List.set_cons_zero]
      refine reg_take 4 121 11 #[true, true, true, true, true, false, false, false, false, false, false, false, false, false, false, false] (by rfl) (v := ?_) rfl rfl (by kernel_rfl) (by kernel_rfl) (by kernel_rfl) (by kernel_rfl) (fun _ _ _ h => h) (by rfl) ?_ (Till.mk' hS trivial) ?_
      rotate_left
      · intro W hS; go_simp; all_goals with_reducible rfl
      try simp only [List.setIfInBounds_toArray, List.set_cons_succ, List.set_cons_zero]
      refine reg_take 5 122 10 #[true, true, true, true, true, true, false, false, false, false, false, false, false, false, false, false] (by rfl) (v := ?_) rfl rfl (by kernel_rfl) (by kernel_rfl) (by kernel_rfl) (by kernel_rfl) (fun _ _ _ h => h) (by rfl) ?_ (Till.mk' hS trivial) ?_
      rotate_left
      · intro W hS; go_simp; all_goals with_reducible rfl
      try simp only [List.setIfInBounds_toArray, List.set_cons_succ, List.set_cons_zero]
      refine reg_take 6 123 9 #[true, true, true, true, true, true, true, false, false, false, false, false, false, false, false, false] (by rfl) (v := ?_) rfl rfl (by kernel_rfl) (by kernel_rfl) (by kernel_rfl) (by kernel_rfl) (fun _ _ _ h => h) (by rfl) ?_ (Till.mk' hS trivial) ?_
      rotate_left
      · intro W hS; go_simp; all_goals with_reducible rfl
      try simp only [List.setIfInBounds_toArray, List.set_cons_succ, List.set_cons_zero]
      refine reg_take 7 124 8 #[true, true, true, true, true, true, true, true, false, false, false, false, false, false, false, false] (by rfl) (v := ?_) rfl rfl (by kernel_rfl) (by kernel_rfl) (by kernel_rfl) (by kernel_rfl) (fun _ _ _ h => h) (by rfl) ?_ (Till.mk' hS trivial) ?_
      rotate_left
      · intro W hS; go_simp; all_goals with_reducible rfl
      try simp only [List.setIfInBounds_toArray, List.set_cons_succ, List.set_cons_zero]
      refine reg_take 8 125 7 #[true, true, true, true, true, true, true, true, true, false, false, false, false, false, false, false] (by rfl) (v := ?_) rfl rfl (by kernel_rfl) (by kernel_rfl) (by kernel_rfl) (by kernel_rfl) (fun _ _ _ h => h) (by rfl) ?_ (Till.mk' hS trivial) ?_
      rotate_left
      · intro W hS; go_simp; all_goals with_reducible rfl
      try simp only [List.setIfInBounds_toArray, List.set_cons_succ, List.set_cons_zero]
      refine reg_take 9 126 6 #[true, true, true, true, true, true, true, true, true, true, false, false, false, false, false, false] (by rfl) (v := ?_) rfl rfl (by kernel_rfl) (by kernel_rfl) (by kernel_rfl) (by kernel_rfl) (fun _ _ _ h => h) (by rfl) ?_ (Till.mk' hS trivial) ?_
      rotate_left
      · intro W hS; go_simp; all_goals with_reducible rfl
      try simp only [List.setIfInBounds_toArray, List.set_cons_succ, List.set_cons_zero]
      refine reg_take 10 127 5 #[true, true, true, true, true, true, true, true, true, true, true, false, false, false, false, false] (by rfl) (v := ?_) rfl rfl (by kernel_rfl) (by kernel_rfl) (by kernel_rfl) (by kernel_rfl) (fun _ _ _ h => h) (by rfl) ?_ (Till.mk' hS trivial) ?_
      rotate_left
      · intro W hS; go_simp; all_goals with_reducible rfl
      try simp only [List.setIfInBounds_toArray, List.set_cons_succ, List.set_cons_zero]
      refine reg_take 11 128 4 #[true, true, true, true, true, true, true, true, true, true, true, true, false, false, false, false] (by rfl) (v := ?_) rfl rfl (by kernel_rfl) (by kernel_rfl) (by kernel_rfl) (by kernel_rfl) (fun _ _ _ h => h) (by rfl) ?_ (Till.mk' hS trivial) ?_
      rotate_left
      · intro W hS; go_simp; all_goals with_reducible rfl
      try simp only [List.setIfInBounds_toArray, List.set_cons_succ, List.set_cons_zero]
      refine reg_take 12 129 3 #[true, true, true, true, true, true, true, true, true, true, true, true, true, false, false, false] (by rfl) (v := ?_) rfl rfl (by kernel_rfl) (by kernel_rfl) (by kernel_rfl) (by kernel_rfl) (fun _ _ _ h => h) (by rfl) ?_ (Till.mk' hS trivial) ?_
      rotate_left
      · intro W hS; go_simp; all_goals with_reducible rfl
      try simp only [List.setIfInBounds_toArray, List.set_cons_succ, List.set_cons_zero]
      refine reg_take 13 130 2 #[true, true, true, true, true, true, true, true, true, true, true, true, true, true, false, false] (by rfl) (v := ?_) rfl rfl (by kernel_rfl) (by kernel_rfl) (by kernel_rfl) (by kernel_rfl) (fun _ _ _ h => h) (by rfl) ?_ (Till.mk' hS trivial) ?_
      rotate_left
      · intro W hS; go_simp; all_goals with_reducible rfl
      try simp only [List.setIfInBounds_toArray, List.set_cons_succ, List.set_cons_zero]
      refine reg_take 14 131 1 #[true, true, true, true, true, true, true, true, true, true, true, true, true, true, true, false] (by rfl) (v := ?_) rfl rfl (by kernel_rfl) (by kernel_rfl) (by kernel_rfl) (by kernel_rfl) (fun _ _ _ h => h) (by rfl) ?_ (Till.mk' hS trivial) ?_
      rotate_left
      · intro W hS; go_simp; all_goals with_reducible rfl
      try simp only [List.setIfInBounds_toArray, List.set_cons_succ, List.set_cons_zero]
      refine reg_take 15 8 0 #[true, true, true, true, true, true, true, true, true, true, true, true, true, true, true, true] (by rfl) (v := ?_) rfl rfl (by kernel_rfl) (by kernel_rfl) (by kernel_rfl) (by kernel_rfl) (fun _ _ _ h => h) (by rfl) ?_ (Till.mk' hS trivial) ?_
      rotate_left
      · intro W hS; go_simp; all_goals with_reducible rfl
      try simp only [List.setIfInBounds_toArray, List.set_cons_succ, List.set_cons_zero]
      refine reg_done (by kernel_rfl) ?_ _
      have bel := (TX.out.trans hS (by simp)).below (Nat.le_refl _) (by simp)
      clear hS
      go_wp2_with fail
      go_ret
      exact ⟨rfl, bel⟩
    ·
      obtain ⟨v9, o9, t0, hgo, hfit, hfc⟩ := HV.out

      have q9 := v9.cell 1
      have f9 := v9.free 1
      simp only [List.getElem?_cons_zero, List.getElem?_cons_succ] at q9
      have v9x := v9.set 1 (.slice none 0 0)
      simp only [List.set_cons_succ, List.set_cons_zero] at v9x
      have o9x := ownsRow_setCell_other o9 (a := ⟨p9, 1, none⟩) (by simpa [Value.ownBlock] using hne) (.slice none 0 0)
      have tx := t0.setCell (p := ⟨p9, 1, none⟩) (.inr (by simp; omega)) (.slice none 0 0)
      have s9x : Sl (w5.setCell ⟨p9, 1, none⟩ (.slice none 0 0)) (w5.setCell ⟨p9, 1, none⟩ (.slice none 0 0)).heap.size 3 (.slice none 0 0) 0 (colCells []) := Sl.nil
      have hft : (⟨G.name, [], G.key, G.only⟩ : Sch).fits := ⟨by show G.name.size ≤ _; omega, fun c hc => by simp at hc⟩
      obtain ⟨x, hx⟩ : ∃ x, x = w5.setCell ⟨p9, 1, none⟩ (.slice none 0 0) := ⟨_, rfl⟩
      rw [← hx] at v9x s9x tx
      have HX := Lib.hid hx
      clear hx
      have ra := v9x.range 0 4
      rw [List.drop_zero, List.take_of_length_le (by simp)] at ra
      have hsa : (Try.prog.info? 30).map (·.size) = some ([.string (G.name), .slice none 0 0, .int .i64 (goodKey s : Nat), .bool (s.only)] : List Value).length := by kernel_rfl
      have F1 := Find_any ⟨G.name, [], G.key, G.only⟩ none 0 0 t x.heap.size x s9x (Nat.le_refl _)
      have F2 := fun (X : World) (tt : Turns [] x X) => refFind_any ⟨G.name, [], G.key, G.only⟩ none 0 0 t x.heap.size X (by exact tt.slice s9x (Nat.le_refl _) (by simp)) tt.size
      have F3 := fun (X : World) (tt : Turns [] x X) => Check_any ⟨G.name, [], G.key, G.only⟩ none 0 0 x.heap.size X hft (by exact tt.slice s9x (Nat.le_refl _) (by simp)) tt.size
      have F4 := fun (X : World) (tt : Turns [] x X) => refCheck_any ⟨G.name, [], G.key, G.only⟩ none 0 0 x.heap.size X hft (by exact tt.slice s9x (Nat.le_refl _) (by simp)) tt.size
      generalize checkS ⟨G.name, [], G.key, G.only⟩ = ck at F3 F4
      generalize max (findI t (⟨G.name, [], G.key, G.only⟩ : Sch).cols) 0 = fa at F1 F2
      generalize decide (0 ≤ findI t (⟨G.name, [], G.key, G.only⟩ : Sch).cols) = fb at F1 F2
      simp only [hgo.1, hgo.2] at F1 F2 F3 F4
      replace F1 := Lib.hid F1
      replace F2 := Lib.hid F2
      replace F3 := Lib.hid F3
      replace F4 := Lib.hid F4
      have TX := Lib.hid tx
      clear v9 o9 t0 v9x s9x tx hgo hfit hfc hft

      go_upto_region 26 with fail
      rw [← HX.out]
      go_wp2_with (first
        | (refine wpList_load_mid rfl 30 (.tmp 9) rfl p9 0 rfl _ _ ra Try.underlying30 rfl hsa ?_)
        | fail)
      refine F1.out.mono ?_
      rintro e x2 ⟨rfl, tt⟩
      have hS := tt
      have rb := rangeT tt ra
      have G2 := Lib.hid (F2.out x2 tt)
      have HT := Lib.hid tt
      clear tt hS
      go_wp2_with (first
        | (refine wpList_load_mid rfl 30 (.tmp 9) rfl p9 0 rfl _ _ rb Try.underlying30 rfl hsa ?_)
        | fail)
      refine G2.out.mono ?_
      rintro e x3 ⟨rfl, tt⟩
      have hS := (HT.out.trans tt (by simp)).drew
      clear tt G2 rb
      go_wp2_with fail
      refine reg_begin (fun W => Turns [] x W) (fun _ => True) 16 16 #[false, false, false, false, false, false, false, false, false, false, false, false, false, false, false, false] (by kernel_rfl) (by kernel_rfl) (by kernel_rfl) ?_
      refine reg_take_y 0 117 15 #[true, false, false, false, false, false, false, false, false, false, false, false, false, false, false, false] (by rfl) rfl rfl (by kernel_rfl) (by kernel_rfl) (by kernel_rfl) (by kernel_rfl) (fun _ _ _ h => h) (yieldsIf_load_mid (by rfl) _ _ rfl p9 0 (by rfl) _ _ (fun W hS => rangeT hS ra) Try.underlying30 rfl hsa) (Till.mk' hS trivial) ?_
      try simp only [List.setIfInBounds_toArray, List.set_cons_succ, List.set_cons_zero]
      refine reg_take_y 2 119 14 #[true, false, true, false, false, false, false, false, false, false, false, false, false, false, false, false] (by rfl) rfl rfl (by kernel_rfl) (by kernel_rfl) (by kernel_rfl) (by kernel_rfl) (fun _ _ _ h => h) (yieldsIf_load_mid (by rfl) _ _ rfl p9 0 (by rfl) _ _ (fun W hS => rangeT hS ra) Try.underlying30 rfl hsa) (Till.mk' hS trivial) ?_
      try simp only [List.setIfInBounds_toArray, List.set_cons_succ, List.set_cons_zero]
      refine reg_one 1 13 #[true, true, true, false, false, false, false, false, false, false, false, false, false, false, false, false] (by kernel_rfl) rfl (by rfl) (by kernel_rfl) (fun K hK => ?_)
      go_simp
      refine (F3.out _ hS).mono ?_
      rintro e x4 ⟨rfl, tt⟩
      have hS := hS.trans tt (by simp)
      clear tt
      refine hK _ _ (Till.mk' hS trivial) ?_
      clear hK K
      try simp only [List.setIfInBounds_toArray, List.set_cons_succ, List.set_cons_zero]
      refine reg_one 3 12 #[true, true, true, true, false, false, false, false, false, false, false, false, false, false, false, false] (by kernel_rfl) rfl (by rfl) (by kernel_rfl) (fun K hK => ?_)
      go_simp
      refine (F4.out _ hS).mono ?_
      rintro e x5 ⟨rfl, tt⟩
      have hS := hS.trans tt (by simp)
      clear tt
      refine hK _ _ (Till.mk' hS trivial) ?_
      clear hK K
      try simp only [List.setIfInBounds_toArray, List.set_cons_succ, List.set_cons_zero]
      refine reg_take 4 121 11 #[true, true, true, true, true, false, false, false, false, false, false, false, false, false, false, false] (by rfl) (v := ?_) rfl rfl (by kernel_rfl) (by kernel_rfl) (by kernel_rfl) (by kernel_rfl) (fun _ _ _ h => h) (by rfl) ?_ (Till.mk' hS trivial) ?_
      rotate_left
      · intro W hS; go_simp; all_goals with_reducible rfl
      try simp only [List.setIfInBounds_toArray, List.set_cons_succ, List.set_cons_zero]
      refine reg_take 5 122 10 #[true, true, true, true, true, true, false, false, false, false, false, false, false, false, false, false] (by rfl) (v := ?_) rfl rfl (by kernel_rfl) (by kernel_rfl) (by kernel_rfl) (by kernel_rfl) (fun _ _ _ h => h) (by rfl) ?_ (Till.mk' hS trivial) ?_
      rotate_left
      · intro W hS; go_simp; all_goals with_reducible rfl
      try simp only [List.setIfInBounds_toArray, List.set_cons_succ, List.set_cons_zero]
      refine reg_take 6 123 9 #[true, true, true, true, true, true, true, false, false, false, false, false, false, false, false, false] (by rfl) (v := ?_) rfl rfl (by kernel_rfl) (by kernel_rfl) (by kernel_rfl) (by kernel_rfl) (fun _ _ _ h => h) (by rfl) ?_ (Till.mk' hS trivial) ?_
      rotate_left
      · intro W hS; go_simp; all_goals with_reducible rfl
      try simp only [List.setIfInBounds_toArray, List.set_cons_succ, List.set_cons_zero]
      refine reg_take 7 124 8 #[true, true, true, true, true, true, true, true, false, false, false, false, false, false, false, false] (by rfl) (v := ?_) rfl rfl (by kernel_rfl) (by kernel_rfl) (by kernel_rfl) (by kernel_rfl) (fun _ _ _ h => h) (by rfl) ?_ (Till.mk' hS trivial) ?_
      rotate_left
      · intro W hS; go_simp; all_goals with_reducible rfl
      try simp only [List.setIfInBounds_toArray, List.set_cons_succ, List.set_cons_zero]
      refine reg_take 8 125 7 #[true, true, true, true, true, true, true, true, true, false, false, false, false, false, false, false] (by rfl) (v := ?_) rfl rfl (by kernel_rfl) (by kernel_rfl) (by kernel_rfl) (by kernel_rfl) (fun _ _ _ h => h) (by rfl) ?_ (Till.mk' hS trivial) ?_
      rotate_left
      · intro W hS; go_simp; all_goals with_reducible rfl
      try simp only [List.setIfInBounds_toArray, List.set_cons_succ, List.set_cons_zero]
      refine reg_take 9 126 6 #[true, true, true, true, true, true, true, true, true, true, false, false, false, false, false, false] (by rfl) (v := ?_) rfl rfl (by kernel_rfl) (by kernel_rfl) (by kernel_rfl) (by kernel_rfl) (fun _ _ _ h => h) (by rfl) ?_ (Till.mk' hS trivial) ?_
      rotate_left
      · intro W hS; go_simp; all_goals with_reducible rfl
      try simp only [List.setIfInBounds_toArray, List.set_cons_succ, List.set_cons_zero]
      refine reg_take 10 127 5 #[true, true, true, true, true, true, true, true, true, true, true, false, false, false, false, false] (by rfl) (v := ?_) rfl rfl (by kernel_rfl) (by kernel_rfl) (by kernel_rfl) (by kernel_rfl) (fun _ _ _ h => h) (by rfl) ?_ (Till.mk' hS trivial) ?_
      rotate_left
      · intro W hS; go_simp; all_goals with_reducible rfl
      try simp only [List.setIfInBounds_toArray, List.set_cons_succ, List.set_cons_zero]
      refine reg_take 11 128 4 #[true, true, true, true, true, true, true, true, true, true, true, true, false, false, false, false] (by rfl) (v := ?_) rfl rfl (by kernel_rfl) (by kernel_rfl) (by kernel_rfl) (by kernel_rfl) (fun _ _ _ h => h) (by rfl) ?_ (Till.mk' hS trivial) ?_
      rotate_left
      · intro W hS; go_simp; all_goals with_reducible rfl
      try simp only [List.setIfInBounds_toArray, List.set_cons_succ, List.set_cons_zero]
      refine reg_take 12 129 3 #[true, true, true, true, true, true, true, true, true, true, true, true, true, false, false, false] (by rfl) (v := ?_) rfl rfl (by kernel_rfl) (by kernel_rfl) (by kernel_rfl) (by kernel_rfl) (fun _ _ _ h => h) (by rfl) ?_ (Till.mk' hS trivial) ?_
      rotate_left
      · intro W hS; go_simp; all_goals with_reducible rfl
      try simp only [List.setIfInBounds_toArray, List.set_cons_succ, List.set_cons_zero]
      refine reg_take 13 130 2 #[true, true, true, true, true, true, true, true, true, true, true, true, true, true, false, false] (by rfl) (v := ?_) rfl rfl (by kernel_rfl) (by kernel_rfl) (by kernel_rfl) (by kernel_rfl) (fun _ _ _ h => h) (by rfl) ?_ (Till.mk' hS trivial) ?_
      rotate_left
      · intro W hS; go_simp; all_goals with_reducible rfl
      try simp only [List.setIfInBounds_toArray, List.set_cons_succ, List.set_cons_zero]
      refine reg_take 14 131 1 #[true, true, true, true, true, true, true, true, true, true, true, true, true, true, true, false] (by rfl) (v := ?_) rfl rfl (by kernel_rfl) (by kernel_rfl) (by kernel_rfl) (by kernel_rfl) (fun _ _ _ h => h) (by rfl) ?_ (Till.mk' hS trivial) ?_
      rotate_left
      · intro W hS; go_simp; all_goals with_reducible rfl
      try simp only [List.setIfInBounds_toArray, List.set_cons_succ, List.set_cons_zero]
      refine reg_take 15 8 0 #[true, true, true, true, true, true, true, true, true, true, true, true, true, true, true, true] (by rfl) (v := ?_) rfl rfl (by kernel_rfl) (by kernel_rfl) (by kernel_rfl) (by kernel_rfl) (fun _ _ _ h => h) (by rfl) ?_ (Till.mk' hS trivial) ?_
      rotate_left
      · intro W hS; go_simp; all_goals with_reducible rfl
      try simp only [List.setIfInBounds_toArray, List.set_cons_succ, List.set_cons_zero]
      refine reg_done (by kernel_rfl) ?_ _
      have bel := (TX.out.trans hS (by simp)).below (Nat.le_refl _) (by simp)
      clear hS
      go_wp2_with fail
      go_ret
      exact ⟨rfl, bel⟩
end Go.Proofs.Ytdllgnccjejhiaa
