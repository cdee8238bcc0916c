/- merkle.Check, walked. -/
import Derived.Test.YtnjnealphbcamaaMkT
namespace Go.Proofs.Ytnjnealphbcamaa
open Go.RowKit
set_option linter.unusedVariables false
set_option maxRecDepth 10000
set_option linter.unusedSimpArgs false
set_option linter.unnecessarySimpa false

def mcheckZ (root leaf : List UInt8) (i n : Int) (p : List (List UInt8)) : Bool := if n ≤ 1048576 ∧ 0 ≤ i ∧ i < n then mcheck root leaf i.toNat n.toNat p else false
theorem fold2_len (h : List UInt8) (hh : h.length = 32) (z : List (Bool × List UInt8)) : (fold2 h z).length = 32 := by
  rcases List.eq_nil_or_concat z with rfl | ⟨z', q, rfl⟩
  · exact hh
  · rw [List.concat_eq_append, fold2_snoc]
    split <;> exact twoH_len _ _
theorem two_boxes (w : World) (a b : List UInt8) (t : TypeId) : Blk ((w.alloc (.cells (bvs a).toArray t)).alloc (.cells (bvs b).toArray t)) w.heap.size (bvs a) t ∧ Blk ((w.alloc (.cells (bvs a).toArray t)).alloc (.cells (bvs b).toArray t)) (w.heap.size + 1) (bvs b) t ∧ Turns [] w ((w.alloc (.cells (bvs a).toArray t)).alloc (.cells (bvs b).toArray t)) := by
  refine ⟨(Blk.new w (bvs a) t).alloc _, ?_, ((Turns.refl [] w).alloc _).alloc _⟩
  have := Blk.new (w.alloc (.cells (bvs a).toArray t)) (bvs b) t
  rwa [World.size_alloc] at this
set_option maxRecDepth 100000 in
set_option maxHeartbeats 2000000 in
theorem Check_out (f : FuncId) (root leaf : List UInt8) (i n : Int) (hin : 1048576 < n ∨ i < 0 ∨ n ≤ i) (v : Value) (w : World) :
    Calls Try.prog 22 #[.agg (bvs root).toArray, .agg (bvs leaf).toArray, .int .i64 i, .int .i64 n, v] w fun e w' => e = .returned (.bool false) ∧ Turns [] w w' := by
  have HT := Lib.hid (two_boxes w root leaf 27).2.2
  by_cases h1 : 1048576 < n
  · clear hin
    go_enter Try.func22, Try.ntmps22
    go_wp2_with fail
    go_ret
    exact ⟨rfl, HT.out⟩
  · by_cases h2 : i < 0
    · clear hin
      go_enter Try.func22, Try.ntmps22
      go_wp2_with fail
      go_ret
      exact ⟨rfl, HT.out⟩
    · have h3 : n ≤ i := by omega
      clear hin
      go_enter Try.func22, Try.ntmps22
      go_wp2_with fail
      go_ret
      exact ⟨rfl, HT.out⟩

set_option maxRecDepth 100000 in
set_option maxHeartbeats 4000000 in
theorem Check_in (root leaf : List UInt8) (hr : root.length = 32) (hf : leaf.length = 32) (i n : Nat) (hi : i < n) (hn : n ≤ 1048576) (p : List (List UInt8)) (m : Nat) (hpm : p.length = m) (hm : m ≤ 1000) (A : Option Addr) (c B : Nat) (w : World) (h : Hs w B (.slice A m c) p) (hB : B ≤ w.heap.size) :
    Calls Try.prog 22 #[.agg (bvs root).toArray, .agg (bvs leaf).toArray, .int .i64 i, .int .i64 n, .slice A m c] w fun e w' => e = .returned (.bool (mcheck root leaf i n p)) ∧ Turns [] w w' := by
  obtain ⟨res, hres⟩ : ∃ r, r = mcheck root leaf i n p := ⟨_, rfl⟩
  rw [← hres]
  have HRES := Lib.hid hres
  obtain ⟨b5, b6, tx⟩ := two_boxes w root leaf 27
  obtain ⟨X0, hX0⟩ : ∃ x, x = (w.alloc (.cells (bvs root).toArray 27)).alloc (.cells (bvs leaf).toArray 27) := ⟨_, rfl⟩
  rw [← hX0] at b5 b6 tx
  have TU := Lib.hid (turns_any i n hi hn X0)
  have hl20 := mway_le 20 n i (by omega)
  obtain ⟨W, hW⟩ : ∃ W, W = mway i n := ⟨_, rfl⟩
  rw [← hW] at TU hl20
  have z1 : ¬ (1048576 : Int) < (n : Int) := by omega
  have z2 : ¬ (i : Int) < 0 := by omega
  have z3 : ¬ (n : Int) ≤ (i : Int) := by omega
  have HX := Lib.hid hX0
  have H0 := Lib.hid (And.intro b5 (And.intro b6 (And.intro tx (And.intro h (And.intro hB (And.intro hr (And.intro hf (And.intro hW (And.intro hpm (And.intro hm hl20))))))))))
  obtain ⟨p5, hp5⟩ : ∃ q, q = w.heap.size := ⟨_, rfl⟩
  obtain ⟨p6, hp6⟩ : ∃ q, q = w.heap.size + 1 := ⟨_, rfl⟩
  rw [← hp6, ← hp5] at H0
  have HP := Lib.hid (And.intro hp5 hp6)
  have hmi : (m : Int) ≤ 1000 := by omega
  obtain ⟨q, hq⟩ : ∃ q, q = W.length := ⟨_, rfl⟩
  rw [← hq] at TU
  have HQ := Lib.hid hq
  clear hres b5 b6 tx hX0 hW hi hn hpm hm hr hf h hB hp5 hp6 hl20 hq
  go_enter Try.func22, Try.ntmps22
  go_wp2_with fail
  rw [← HX.out, ← HP.out.2, ← HP.out.1]
  refine TU.out.mono ?_
  rintro e X1 ⟨A2, c2, rfl, hc2, hbr, t2⟩
  have HB := Lib.hid (And.intro hbr (And.intro t2 hc2))
  have hqq := HQ.out
  have hq20 : q ≤ 20 := by have := H0.out.2.2.2.2.2.2.2.2.2.2; omega
  have hqi : (q : Int) ≤ 20 := by omega
  clear TU hbr t2 hc2
  by_cases hne : q = m
  · subst hne
    have zz : (q != q) = false := by simp
    clear hqq hq20
    go_wp2_with fail
    go_loopw [34] (fun u wr => ∃ k : Nat, k ≤ q ∧ u = .int .i64 k ∧ Blk wr p6 (bvs (fold2 leaf ((W.reverse.zip p).take k))) 27 ∧ Turns [p6] X1 wr) (fun u _ => q - (intOf u).toNat)
    case atStart => exact ⟨0, by omega, rfl, by simpa [fold2] using H0.out.2.1.turns HB.out.2.1 (by simp), Turns.refl _ _⟩
    case round =>
      obtain ⟨k, hk, rfl, v6, td⟩ := hrel
      obtain ⟨hb5, hb6, htx, hhs, hB, hr, hf, hW, hpm, hm, hl20⟩ := H0.out
      by_cases hlt : k < q
      · have hki : (k : Int) < (q : Int) := by omega
        have hkr : k < W.reverse.length := by simp; have := HQ.out; omega
        have hkp : k < p.length := by omega
        have hkz : k < (W.reverse.zip p).length := by simp; have := HQ.out; omega
        have hstep : (W.reverse.zip p).take (k + 1) = (W.reverse.zip p).take k ++ [(W.reverse[k], p[k])] := by
          rw [List.take_succ_eq_append_getElem hkz]; simp
        have hWne : W.reverse ≠ [] := by intro h; rw [h] at hkr; simp at hkr
        obtain ⟨g, rfl, hglo, hg, hbc⟩ := HB.out.1 hWne
        have cb := (hbc k _ (List.getElem?_eq_getElem hkr)).1
        obtain ⟨b0, off, rfl, hb0, r0⟩ := hhs.at_ (i := k) hkp
        have hpl := hhs.all _ (List.getElem_mem hkp)
        obtain ⟨b, hbb⟩ : ∃ b, b = W.reverse[k] := ⟨_, rfl⟩
        obtain ⟨x, hxx⟩ : ∃ x, x = p[k] := ⟨_, rfl⟩
        rw [← hbb, ← hxx] at hstep
        rw [← hbb] at cb
        rw [← hxx] at r0 hpl
        have hfl := fold2_len leaf hf ((W.reverse.zip p).take k)
        have hfs := fold2_snoc leaf ((W.reverse.zip p).take k) (b, x)
        rw [← hstep] at hfs
        obtain ⟨y, hy⟩ : ∃ y, y = fold2 leaf ((W.reverse.zip p).take k) := ⟨_, rfl⟩
        rw [← hy] at v6 hfl hfs
        have hgp6 : g ≠ p6 := by have := hb6.lt; omega
        have hb06 : b0 ≠ p6 := by have := HP.out; omega
        have cb := cellL td cb (by simpa using hgp6)
        have r0 := rangeT td (rangeT HB.out.2.1 (rangeT htx r0 (by simp)) (by simp)) (by simpa using hb06)
        have r6 := v6.range 0 32
        have hyl : (bvs y).length = 32 := by rw [bvs_length, hfl]
        rw [List.drop_zero, List.take_of_length_le (by omega)] at r6
        have HF := Lib.hid (And.intro v6 (And.intro td (And.intro r0 (And.intro r6 (And.intro hfs (And.intro hfl hpl))))))
        have hsx := Lib.hid (show (Try.prog.info? 27).map (·.size) = some (bvs x).length by rw [size_hash, bvs_length, hpl])
        have hsy := Lib.hid (show (Try.prog.info? 27).map (·.size) = some (bvs y).length by rw [size_hash, hyl])
        have hlt6 := v6.lt
        have HL6 := Lib.hid hlt6
        clear hkr hkp hkz hstep hWne hg hglo hbc r0 r6 hpl hbb hxx hfl hy v6 td hgp6 hb06 hb0 hhs hb5 hb6 htx hB hr hf hW hpm hm hl20 hyl hlt6 hlt hk
        have hT : Turns [] wr wr.drew := (Turns.refl _ _).drew
        cases b with
        | true =>
          rw [if_pos rfl] at hfs
          have HFS := Lib.hid hfs
          clear hfs
          go_upto_region 10 with fail
          refine reg_begin (fun _ => True) (fun W => Turns [] wr W) 7 8 #[false, false, false, false, false, false, false, false] (by kernel_rfl) (by kernel_rfl) (by kernel_rfl) ?_
          refine reg_take 0 41 7 #[true, false, false, false, false, false, false, false] (by rfl) (v := ?_) rfl rfl (by kernel_rfl) (by kernel_rfl) (by kernel_rfl) (by kernel_rfl) (fun _ _ _ h => h) (by rfl) ?_ (Till.mk' trivial hT) ?_
          rotate_left
          · intro W hS; go_simp; all_goals with_reducible rfl
          try simp only [List.setIfInBounds_toArray, List.set_cons_succ, List.set_cons_zero]
          refine reg_take 1 42 6 #[true, true, false, false, false, false, false, false] (by rfl) (v := ?_) rfl rfl (by kernel_rfl) (by kernel_rfl) (by kernel_rfl) (by kernel_rfl) (fun _ _ _ h => h) (by rfl) ?_ (Till.mk' trivial hT) ?_
          rotate_left
          · intro W hS; go_simp; all_goals with_reducible rfl
          try simp only [List.setIfInBounds_toArray, List.set_cons_succ, List.set_cons_zero]
          refine reg_take 2 43 5 #[true, true, true, false, false, false, false, false] (by rfl) (v := ?_) rfl rfl (by kernel_rfl) (by kernel_rfl) (by kernel_rfl) (by kernel_rfl) (fun _ _ _ h => h) (by rfl) ?_ (Till.mk' trivial hT) ?_
          rotate_left
          · intro W hS; go_simp; all_goals with_reducible rfl
          try simp only [List.setIfInBounds_toArray, List.set_cons_succ, List.set_cons_zero]
          refine reg_take_yt 3 44 4 #[true, true, true, true, false, false, false, false] (by rfl) rfl rfl (by kernel_rfl) (by kernel_rfl) (by kernel_rfl) (by kernel_rfl) (fun _ _ _ h => h) (by kernel_rfl) (by kernel_rfl) (yieldsIf_load_mid (by rfl) _ _ rfl b0 (off + k * 32) (by rfl) (bvs x) _ (fun W hS => rangeT hS.2 HF.out.2.2.1 (by simp)) Try.underlying27 rfl hsx.out) (Till.mk' trivial hT) ?_
          try simp only [List.setIfInBounds_toArray, List.set_cons_succ, List.set_cons_zero]
          refine reg_take_yt 4 45 3 #[true, true, true, true, true, false, false, false] (by rfl) rfl rfl (by kernel_rfl) (by kernel_rfl) (by kernel_rfl) (by kernel_rfl) (fun _ _ _ h => h) (by kernel_rfl) (by kernel_rfl) (yieldsIf_load_mid (by rfl) _ _ rfl p6 0 (by rfl) (bvs y) _ (fun W hS => rangeT hS.2 HF.out.2.2.2.1 (by simp)) Try.underlying27 rfl hsy.out) (Till.mk' trivial hT) ?_
          try simp only [List.setIfInBounds_toArray, List.set_cons_succ, List.set_cons_zero]
          refine reg_one 5 2 #[true, true, true, true, true, true, false, false] (by kernel_rfl) rfl (by rfl) (by kernel_rfl) (fun K hK => ?_)
          refine wp_build_hash1 y HF.out.2.2.2.2.2.1 (.tmp 45) (by rfl) (by rfl) ?_
          refine hK _ _ (Till.mk' trivial (hT.alloc _)) ?_
          clear hK K
          try simp only [List.setIfInBounds_toArray, List.set_cons_succ, List.set_cons_zero]
          refine reg_one 6 1 #[true, true, true, true, true, true, true, false] (by kernel_rfl) rfl (by rfl) (by kernel_rfl) (fun K hK => ?_)
          go_simp
          refine (joined_any x y HF.out.2.2.2.2.2.2 _ _ _ _ (Hs.one wr.drew y HF.out.2.2.2.2.2.1 _) (by simp)).mono ?_
          rintro e w5 ⟨rfl, t5⟩
          have t5 : Turns [] wr.drew w5 := ((Turns.refl [] wr.drew).alloc _).trans t5 (by simp)
          refine hK _ _ (Till.mk' trivial (hT.trans t5 (by simp))) ?_
          clear hK K
          try simp only [List.setIfInBounds_toArray, List.set_cons_succ, List.set_cons_zero]
          refine reg_one 7 0 #[true, true, true, true, true, true, true, true] (by kernel_rfl) rfl (by rfl) (by kernel_rfl) (fun K hK => ?_)
          refine wp_store_blk 27 _ _ (by rfl) p6 (by rfl) (bvs (twoH x y)) (bvs y) 27 (by rfl) ((HF.out.1.turns hT (by simp)).turns t5 (by simp)) (by rw [bvs_length, bvs_length, HF.out.2.2.2.2.2.1, twoH_len]) (by rw [size_hash, bvs_length, twoH_len]) (bvs_one _) (fun w7 hb7 ht7 => ?_)
          refine hK _ _ (Till.past trivial (by kernel_rfl)) ?_
          clear hK K
          try simp only [List.setIfInBounds_toArray, List.set_cons_succ, List.set_cons_zero]
          refine reg_done (by kernel_rfl) ?_ _
          have HN := Lib.hid (And.intro hb7 ((hT.trans t5 (by simp)).mono (L' := [p6]) (by simp) |>.trans ht7 (by simp)))
          clear hb7 ht7 t5
          go_wp2_with fail
          go_roundw
          case rel => exact ⟨k + 1, by omega, by go_num, by rw [HFS.out]; exact HN.out.1, HF.out.2.1.trans HN.out.2 (by simp)⟩
          case measure => (simp [intOf] <;> omega)
        | false =>
          rw [if_neg (by simp)] at hfs
          have HFS := Lib.hid hfs
          clear hfs
          go_upto_region 11 with fail
          refine reg_begin (fun _ => True) (fun W => Turns [] wr W) 7 8 #[false, false, false, false, false, false, false, false] (by kernel_rfl) (by kernel_rfl) (by kernel_rfl) ?_
          refine reg_take_yt 0 48 7 #[true, false, false, false, false, false, false, false] (by rfl) rfl rfl (by kernel_rfl) (by kernel_rfl) (by kernel_rfl) (by kernel_rfl) (fun _ _ _ h => h) (by kernel_rfl) (by kernel_rfl) (yieldsIf_load_mid (by rfl) _ _ rfl p6 0 (by rfl) (bvs y) _ (fun W hS => rangeT hS.2 HF.out.2.2.2.1 (by simp)) Try.underlying27 rfl hsy.out) (Till.mk' trivial hT) ?_
          try simp only [List.setIfInBounds_toArray, List.set_cons_succ, List.set_cons_zero]
          refine reg_take 1 49 6 #[true, true, false, false, false, false, false, false] (by rfl) (v := ?_) rfl rfl (by kernel_rfl) (by kernel_rfl) (by kernel_rfl) (by kernel_rfl) (fun _ _ _ h => h) (by rfl) ?_ (Till.mk' trivial hT) ?_
          rotate_left
          · intro W hS; go_simp; all_goals with_reducible rfl
          try simp only [List.setIfInBounds_toArray, List.set_cons_succ, List.set_cons_zero]
          refine reg_take 2 50 5 #[true, true, true, false, false, false, false, false] (by rfl) (v := ?_) rfl rfl (by kernel_rfl) (by kernel_rfl) (by kernel_rfl) (by kernel_rfl) (fun _ _ _ h => h) (by rfl) ?_ (Till.mk' trivial hT) ?_
          rotate_left
          · intro W hS; go_simp; all_goals with_reducible rfl
          try simp only [List.setIfInBounds_toArray, List.set_cons_succ, List.set_cons_zero]
          refine reg_take 3 51 4 #[true, true, true, true, false, false, false, false] (by rfl) (v := ?_) rfl rfl (by kernel_rfl) (by kernel_rfl) (by kernel_rfl) (by kernel_rfl) (fun _ _ _ h => h) (by rfl) ?_ (Till.mk' trivial hT) ?_
          rotate_left
          · intro W hS; go_simp; all_goals with_reducible rfl
          try simp only [List.setIfInBounds_toArray, List.set_cons_succ, List.set_cons_zero]
          refine reg_take_yt 4 52 3 #[true, true, true, true, true, false, false, false] (by rfl) rfl rfl (by kernel_rfl) (by kernel_rfl) (by kernel_rfl) (by kernel_rfl) (fun _ _ _ h => h) (by kernel_rfl) (by kernel_rfl) (yieldsIf_load_mid (by rfl) _ _ rfl b0 (off + k * 32) (by rfl) (bvs x) _ (fun W hS => rangeT hS.2 HF.out.2.2.1 (by simp)) Try.underlying27 rfl hsx.out) (Till.mk' trivial hT) ?_
          try simp only [List.setIfInBounds_toArray, List.set_cons_succ, List.set_cons_zero]
          refine reg_one 5 2 #[true, true, true, true, true, true, false, false] (by kernel_rfl) rfl (by rfl) (by kernel_rfl) (fun K hK => ?_)
          refine wp_build_hash1 x HF.out.2.2.2.2.2.2 (.tmp 52) (by rfl) (by rfl) ?_
          refine hK _ _ (Till.mk' trivial (hT.alloc _)) ?_
          clear hK K
          try simp only [List.setIfInBounds_toArray, List.set_cons_succ, List.set_cons_zero]
          refine reg_one 6 1 #[true, true, true, true, true, true, true, false] (by kernel_rfl) rfl (by rfl) (by kernel_rfl) (fun K hK => ?_)
          go_simp
          refine (joined_any y x HF.out.2.2.2.2.2.1 _ _ _ _ (Hs.one wr.drew x HF.out.2.2.2.2.2.2 _) (by simp)).mono ?_
          rintro e w5 ⟨rfl, t5⟩
          have t5 : Turns [] wr.drew w5 := ((Turns.refl [] wr.drew).alloc _).trans t5 (by simp)
          refine hK _ _ (Till.mk' trivial (hT.trans t5 (by simp))) ?_
          clear hK K
          try simp only [List.setIfInBounds_toArray, List.set_cons_succ, List.set_cons_zero]
          refine reg_one 7 0 #[true, true, true, true, true, true, true, true] (by kernel_rfl) rfl (by rfl) (by kernel_rfl) (fun K hK => ?_)
          refine wp_store_blk 27 _ _ (by rfl) p6 (by rfl) (bvs (twoH y x)) (bvs y) 27 (by rfl) ((HF.out.1.turns hT (by simp)).turns t5 (by simp)) (by rw [bvs_length, bvs_length, HF.out.2.2.2.2.2.1, twoH_len]) (by rw [size_hash, bvs_length, twoH_len]) (bvs_one _) (fun w7 hb7 ht7 => ?_)
          refine hK _ _ (Till.past trivial (by kernel_rfl)) ?_
          clear hK K
          try simp only [List.setIfInBounds_toArray, List.set_cons_succ, List.set_cons_zero]
          refine reg_done (by kernel_rfl) ?_ _
          have HN := Lib.hid (And.intro hb7 ((hT.trans t5 (by simp)).mono (L' := [p6]) (by simp) |>.trans ht7 (by simp)))
          clear hb7 ht7 t5
          go_wp2_with fail
          go_roundw
          case rel => exact ⟨k + 1, by omega, by go_num, by rw [HFS.out]; exact HN.out.1, HF.out.2.1.trans HN.out.2 (by simp)⟩
          case measure => (simp [intOf] <;> omega)
      · obtain rfl : k = q := by omega
        have hzl : (W.reverse.zip p).length ≤ k := by simp; omega
        rw [List.take_of_length_le hzl] at v6
        have hfl := fold2_len leaf hf (W.reverse.zip p)
        have hres := HRES.out
        unfold mcheck mled at hres
        rw [← hW, hpm, ← HQ.out] at hres
        simp only [beq_self_eq_true, Bool.true_and] at hres
        obtain ⟨y, hy⟩ : ∃ y, y = fold2 leaf (W.reverse.zip p) := ⟨_, rfl⟩
        rw [← hy] at v6 hfl hres
        have v5 := (hb5.turns HB.out.2.1 (by simp)).turns td (by simp; have := HP.out; omega)
        have eq1 := eqlH y root hfl hr
        rw [← hres] at eq1
        have HV := Lib.hid (And.intro v6 (And.intro v5 ((htx.trans HB.out.2.1 (by simp)).trans td (by simp; have := HP.out; omega))))
        have hsy := Lib.hid (show (Try.prog.info? 27).map (·.size) = some (bvs y).length by rw [size_hash, bvs_length, hfl])
        have hsr := Lib.hid (show (Try.prog.info? 27).map (·.size) = some (bvs root).length by rw [size_hash, bvs_length, hr])
        clear v6 td hzl hfl hres hy v5 hb5 hb6 htx hhs hB hr hf hW hpm hm hl20 hk hlt
        go_wp2_with (first
          | (refine wpList_load_blk rfl 27 (.tmp 6) rfl p6 (by kernel_rfl) (bvs y) _ _ HV.out.1 Try.underlying27 rfl hsy.out ?_)
          | (refine wpList_load_blk rfl 27 (.tmp 5) rfl p5 (by kernel_rfl) (bvs root) _ _ HV.out.2.1 Try.underlying27 rfl hsr.out ?_)
          | fail)
        go_ret
        exact ⟨rfl, HV.out.2.2⟩
  · have zz : (q != m) = true := by simpa using hne
    have zz2 : ((q : Int) != (m : Int)) = true := by simp; omega
    have HN := Lib.hid hne
    clear hqq hq20 hne
    go_wp2_with fail
    go_ret
    refine ⟨?_, H0.out.2.2.1.trans HB.out.2.1 (by simp)⟩
    have h1 := HN.out
    have h2 := HQ.out
    have h3 := H0.out.2.2.2.2.2.2.2.1
    have h4 := H0.out.2.2.2.2.2.2.2.2.1
    rw [HRES.out]
    unfold mcheck
    rw [← h3, ← h2, h4]
    simp [h1]
end Go.Proofs.Ytnjnealphbcamaa
