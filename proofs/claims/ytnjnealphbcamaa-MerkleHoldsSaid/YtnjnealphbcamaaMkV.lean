/- The document's check, walked: led, Check. -/
import Derived.Test.YtnjnealphbcamaaMkU
import Derived.Laws.ResultCell
namespace Go.Proofs.Ytnjnealphbcamaa
open Go.RowKit
set_option linter.unusedVariables false
set_option maxRecDepth 10000
set_option linter.unusedSimpArgs false
set_option linter.unnecessarySimpa false

theorem results_two {P : Program} {fn : Func} {p u : Tmp} {ty : TypeId} (h : fn.results = #[.cell p ty, .tmp u]) (tmps : Array Value) (w : World) (g : Nat) (t : TypeId) (cs : List Value) (d : TypeDesc) (x : Value)
    (hp : tmps.getD p undef = .pointer (some ⟨g, 0, none⟩)) (hx : tmps.getD u undef = x) (hg : Blk w g cs t)
    (hu : P.underlying ty = some d) (hd : (match d with | .struct _ | .array _ _ => true | _ => false) = true) (hi : (P.info? ty).map (·.size) = some cs.toArray.size) :
    (results fn tmps).run P w = .ok (.tuple #[.agg cs.toArray, x]) w := by
  rw [results_cell_tmp h tmps P w, hp, hx]
  simp [asAddr, run_loadVar_row w g t ty cs.toArray (0, 0) d hg hu hd hi]
theorem wp_alloc_arr {P : Program} {o : Oper} {a : Act} {w : World} {K : Act → World → Prop} {Q : Exit → Act → World → Prop} (ty : TypeId) (ho : o.op = .alloc ty) (zs : Array Value) (hz : (P.info? ty).bind (·.zero) = some (.agg zs))
    (h : K (a.put o.dst (.pointer (some ⟨w.heap.size, 0, none⟩))) (w.alloc (.cells zs ty))) : o.wp P a w K Q := by
  unfold Oper.wp execOp
  simp only [ho, Sem.run_bind, Sem.run_pure, run_alloc_arr w ty zs hz, Result.andThen_ok]
  exact h
def LedP (h : List UInt8) (i n : Nat) (p : List (List UInt8)) (x : List UInt8) (is : Bool) : Prop := x.length = 32 ∧ is = ((mway i n).length == p.length) ∧ (is = true → x = mled h i n p)
theorem LedP.one {h : List UInt8} (hh : h.length = 32) (i : Nat) (p : List (List UInt8)) (is : Bool) (hi : is = (p.length == 0)) : LedP h i 1 p h is := by
  refine ⟨hh, by rw [mway_few i 1 (by omega), hi]; cases p <;> rfl, fun _ => ?_⟩
  unfold mled
  rw [mway_few i 1 (by omega)]; rfl
theorem LedP.none {h : List UInt8} (hh : h.length = 32) (i n : Nat) (h2 : 2 ≤ n) : LedP h i n [] h false := by
  refine ⟨hh, ?_, fun h => by cases h⟩
  by_cases hi : i < mcut n
  · rw [mway_left i n h2 hi]; simp
  · rw [mway_right i n h2 hi]; simp
theorem LedP.left {h : List UInt8} {i n : Nat} {p : List (List UInt8)} {x l : List UInt8} {is : Bool} (h2 : 2 ≤ n) (hi : i < mcut n) (hl : LedP h i (mcut n) p x is) : LedP h i n (p ++ [l]) (twoH x l) is := by
  obtain ⟨a, b, c⟩ := hl
  refine ⟨twoH_len _ _, by rw [mway_left i n h2 hi, b]; simp, fun hh => ?_⟩
  have := c hh
  rw [hh] at b
  rw [mled_left h i n p l h2 hi (by simpa using b.symm), ← this]
theorem LedP.right {h : List UInt8} {i n : Nat} {p : List (List UInt8)} {x l : List UInt8} {is : Bool} (h2 : 2 ≤ n) (hi : ¬ i < mcut n) (hl : LedP h (i - mcut n) (n - mcut n) p x is) : LedP h i n (p ++ [l]) (twoH l x) is := by
  obtain ⟨a, b, c⟩ := hl
  refine ⟨twoH_len _ _, by rw [mway_right i n h2 hi, b]; simp, fun hh => ?_⟩
  have := c hh
  rw [hh] at b
  rw [mled_right h i n p l h2 hi (by simpa using b.symm), ← this]

def LedSpec (N : Nat) : Prop := ∀ (h : List UInt8) (i n m : Nat) (p : List (List UInt8)), h.length = 32 → p.length = m → n ≤ N → i < n → n ≤ 1048576 → m ≤ 1000 → ∀ (A : Option Addr) (c B : Nat) (w : World), Hs w B (.slice A m c) p → B ≤ w.heap.size →
    Calls Try.prog 32 #[.agg (bvs h).toArray, .int .i64 i, .int .i64 n, .slice A m c] w fun e w' => ∃ x is, LedP h i n p x is ∧ e = .returned (.tuple #[.agg (bvs x).toArray, .bool is]) ∧ Turns [] w w'
set_option maxRecDepth 100000 in
set_option maxHeartbeats 4000000 in
theorem led_step (N : Nat) (IHN : LedSpec N) : LedSpec (N + 1) := by
    intro h i n m p hh hp hnN hi hnm hmm A c B w hs hB
    obtain ⟨b4, b8, tx⟩ := two_boxes w h (zeros 32) 27
    have hz32 := zero_hash
    have hzl := zeros32_len
    generalize hzz : bvs (zeros 32) = zz at hz32 hzl b8 tx b4
    obtain ⟨X0, hX0⟩ : ∃ x, x = (w.alloc (.cells (bvs h).toArray 27)).alloc (.cells zz.toArray 27) := ⟨_, rfl⟩
    rw [← hX0] at b4 b8 tx
    obtain ⟨p4, hp4⟩ : ∃ q, q = w.heap.size := ⟨_, rfl⟩
    obtain ⟨p8, hp8⟩ : ∃ q, q = w.heap.size + 1 := ⟨_, rfl⟩
    rw [← hp8] at b8
    rw [← hp4] at b4
    have hhl : (bvs h).length = 32 := by rw [bvs_length, hh]
    have hsh := Lib.hid (show (Try.prog.info? 27).map (·.size) = some (bvs h).length by rw [size_hash, hhl])
    have hlh := Lib.hid (show zz.length = (bvs h).length by rw [hzl, hhl])
    have HX := Lib.hid hX0
    have HP := Lib.hid (And.intro hp4 hp8)
    have HZL := Lib.hid hzl
    have H0 := Lib.hid (And.intro b4 (And.intro b8 (And.intro tx (And.intro hs (And.intro hB hh)))))
    have hmi : (m : Int) ≤ 1000 := by omega
    clear b4 b8 tx hzz hX0 hzl hhl
    rcases Nat.lt_or_ge n 2 with hn2 | hn2
    · obtain rfl : n = 1 := by omega
      have HF := Lib.hid (LedP.one hh i p (m == 0) (by rw [hp]))
      clear hs hB hh hp hnN hi hnm hmm hp4 hp8 hn2 IHN
      by_cases hm0 : m = 0
      · subst hm0
        go_enter Try.func32, Try.ntmps32
        go_upto_region 1 with (first | (refine wpList_alloc_arr (o := ⟨some 8, _, _, _, _, _⟩) rfl 27 rfl zz.toArray hz32 ?_) | fail)
        try simp only [Act.put, List.setIfInBounds_toArray, List.set_cons_succ, List.set_cons_zero]
        rw [← HX.out, ← HP.out.2, ← HP.out.1]
        go_wp2_with (first
          | (refine wpList_load_blk rfl 27 (.tmp 4) rfl p4 (by kernel_rfl) (bvs h) _ _ H0.out.1 Try.underlying27 rfl hsh.out ?_)
          | (refine wpList_store_blk rfl 27 (.tmp 8) (.tmp 18) rfl p8 (by kernel_rfl) (bvs h) zz 27 (by kernel_rfl) H0.out.2.1 hlh.out hsh.out (bvs_one _) (fun y1 hb1 ht1 hs1 => ?_); have HQ := Lib.hid (And.intro hb1 ht1); clear hb1 ht1 hs1)
          | fail)
        refine bodyPost_ret (results_two rfl _ _ p8 _ _ _ (.bool true) (by kernel_rfl) (by kernel_rfl) HQ.out.1 Try.underlying27 rfl (by rw [List.size_toArray]; exact hsh.out)) rfl ?_
        exact ⟨h, _, HF.out, rfl, H0.out.2.2.1.trans HQ.out.2 (by simp; have := HP.out; omega)⟩
      · have zb : (m == 0) = false := by simpa using hm0
        have zb2 : ((m : Int) == 0) = false := by simp; omega
        rw [zb] at HF
        clear zb
        go_enter Try.func32, Try.ntmps32
        go_upto_region 1 with (first | (refine wpList_alloc_arr (o := ⟨some 8, _, _, _, _, _⟩) rfl 27 rfl zz.toArray hz32 ?_) | fail)
        try simp only [Act.put, List.setIfInBounds_toArray, List.set_cons_succ, List.set_cons_zero]
        rw [← HX.out, ← HP.out.2, ← HP.out.1]
        go_wp2_with (first
          | (refine wpList_load_blk rfl 27 (.tmp 4) rfl p4 (by kernel_rfl) (bvs h) _ _ H0.out.1 Try.underlying27 rfl hsh.out ?_)
          | (refine wpList_store_blk rfl 27 (.tmp 8) (.tmp 18) rfl p8 (by kernel_rfl) (bvs h) zz 27 (by kernel_rfl) H0.out.2.1 hlh.out hsh.out (bvs_one _) (fun y1 hb1 ht1 hs1 => ?_); have HQ := Lib.hid (And.intro hb1 ht1); clear hb1 ht1 hs1)
          | fail)
        refine bodyPost_ret (results_two rfl _ _ p8 _ _ _ (.bool false) (by kernel_rfl) (by kernel_rfl) HQ.out.1 Try.underlying27 rfl (by rw [List.size_toArray]; exact hsh.out)) rfl ?_
        exact ⟨h, _, HF.out, rfl, H0.out.2.2.1.trans HQ.out.2 (by simp; have := HP.out; omega)⟩
    · have z1 : ((n : Int) == 1) = false := by simp; omega
      by_cases hm0 : m = 0
      · subst hm0
        obtain rfl : p = [] := List.eq_nil_of_length_eq_zero hp
        have HF := Lib.hid (LedP.none hh i n hn2)
        clear hs hB hh hp hnN hi hnm hmm hp4 hp8 hn2 IHN
        go_enter Try.func32, Try.ntmps32
        go_upto_region 1 with (first | (refine wpList_alloc_arr (o := ⟨some 8, _, _, _, _, _⟩) rfl 27 rfl zz.toArray hz32 ?_) | fail)
        try simp only [Act.put, List.setIfInBounds_toArray, List.set_cons_succ, List.set_cons_zero]
        rw [← HX.out, ← HP.out.2, ← HP.out.1]
        go_wp2_with (first
          | (refine wpList_load_blk rfl 27 (.tmp 4) rfl p4 (by kernel_rfl) (bvs h) _ _ H0.out.1 Try.underlying27 rfl hsh.out ?_)
          | (refine wpList_store_blk rfl 27 (.tmp 8) (.tmp 25) rfl p8 (by kernel_rfl) (bvs h) zz 27 (by kernel_rfl) H0.out.2.1 hlh.out hsh.out (bvs_one _) (fun y1 hb1 ht1 hs1 => ?_); have HQ := Lib.hid (And.intro hb1 ht1); clear hb1 ht1 hs1)
          | fail)
        refine bodyPost_ret (results_two rfl _ _ p8 _ _ _ (.bool false) (by kernel_rfl) (by kernel_rfl) HQ.out.1 Try.underlying27 rfl (by rw [List.size_toArray]; exact hsh.out)) rfl ?_
        exact ⟨h, _, HF.out, rfl, H0.out.2.2.1.trans HQ.out.2 (by simp; have := HP.out; omega)⟩
      · have zb2 : ((m : Int) == 0) = false := by simp; omega
        have zm : 1 ≤ (m : Int) := by omega
        have hto := hs.to (k := m - 1) (by omega)
        obtain ⟨A0, c0, hv, hnc, _⟩ := hs.form
        injection hv with e1 e2 e3
        subst e1 e3
        clear e2
        obtain ⟨b0, off, rfl, hb0, r0⟩ := hs.at_ (i := m - 1) (by omega)
        have hll := hs.all _ (List.getElem_mem (show m - 1 < p.length by omega))
        have hsplit : p = p.take (m - 1) ++ [p[m - 1]] := by
          rw [← List.take_succ_eq_append_getElem, List.take_of_length_le (by omega)]
        obtain ⟨l, hl⟩ : ∃ l, l = p[m - 1] := ⟨_, rfl⟩
        rw [← hl] at r0 hll hsplit
        have hpl : (p.take (m - 1)).length = m - 1 := by simp; omega
        have hk1 := mcut_pos n
        have hk2 := mcut_lt n hn2
        have CU := part_any n (by omega)
        have HLL := Lib.hid (fun x is (hq : LedP h i (mcut n) (p.take (m - 1)) x is) (hik : i < mcut n) => (show LedP h i n p (twoH x l) is by have := LedP.left (l := l) hn2 hik hq; rwa [← hsplit] at this))
        have HLR := Lib.hid (fun x is (hq : LedP h (i - mcut n) (n - mcut n) (p.take (m - 1)) x is) (hik : ¬ i < mcut n) => (show LedP h i n p (twoH l x) is by have := LedP.right (l := l) hn2 hik hq; rwa [← hsplit] at this))
        have IHL := fun (hik : i < mcut n) => IHN h i (mcut n) (m - 1) (p.take (m - 1)) hh hpl (by omega) hik (by omega) (by omega) (some ⟨b0, off, none⟩) c B
        have IHR := fun (hik : ¬ i < mcut n) => IHN h (i - mcut n) (n - mcut n) (m - 1) (p.take (m - 1)) hh hpl (by omega) (by omega) (by omega) (by omega) (some ⟨b0, off, none⟩) c B
        obtain ⟨k, hk⟩ : ∃ k, k = mcut n := ⟨_, rfl⟩
        rw [← hk] at CU HLL HLR IHL IHR hk1 hk2
        have HCU := Lib.hid CU
        have r1 := rangeT H0.out.2.2.1 r0 (by simp)
        have hsl := Lib.hid (show (Try.prog.info? 27).map (·.size) = some (bvs l).length by rw [size_hash, bvs_length, hll])
        have hlz := Lib.hid (show zz.length = (bvs l).length by rw [HZL.out, bvs_length, hll])
        have b11 := Blk.new X0 zz 27
        have ta : Turns [] X0 (X0.alloc (.cells zz.toArray 27)) := (Turns.refl _ _).alloc _
        have HR := Lib.hid (And.intro r1 (And.intro b11 (And.intro ta (And.intro hto (And.intro hll hh)))))
        have hmc : (m : Int) - 1 ≤ (c : Int) := by omega
        have hkn : (k : Int) ≤ (n : Int) := by omega
        have hni : (n : Int) ≤ 1048576 := by omega
        have HK := Lib.hid (And.intro hk1 (And.intro hk2 hi))
        clear hs hB hh hp hnN hi hnm hmm hp4 hp8 hn2 hto hnc hb0 r0 hsplit hl hpl CU hk r1 b11 ta hll hk1 hk2
        go_enter Try.func32, Try.ntmps32
        go_upto_region 1 with (first | (refine wpList_alloc_arr (o := ⟨some 8, _, _, _, _, _⟩) rfl 27 rfl zz.toArray hz32 ?_) | fail)
        try simp only [Act.put, List.setIfInBounds_toArray, List.set_cons_succ, List.set_cons_zero]
        rw [← HX.out, ← HP.out.2, ← HP.out.1]
        go_wp2_with fail
        refine (HCU.out X0).mono ?_
        rintro e X1 ⟨rfl, rfl⟩
        clear HCU
        go_upto_region 7 with (first
          | (refine wpList_alloc_arr rfl 27 rfl zz.toArray hz32 ?_)
          | (refine wpList_store_blk rfl 27 (.tmp 11) (.tmp 33) rfl X0.heap.size (by kernel_rfl) (bvs l) zz 27 (by kernel_rfl) HR.out.2.1 hlz.out hsl.out (bvs_one _) (fun y1 hb1 ht1 hs1 => ?_); have HQ := Lib.hid (And.intro hb1 ht1); clear hb1 ht1 hs1)
          | (refine wpList_load_mid rfl 27 (.tmp 32) rfl b0 (off + (m - 1) * 32) (by kernel_rfl) (bvs l) _ HR.out.1 Try.underlying27 rfl hsl.out ?_)
          | fail)
        try simp only [Act.put, List.setIfInBounds_toArray, List.set_cons_succ, List.set_cons_zero]
        obtain ⟨p11, hp11⟩ : ∃ q, q = X0.heap.size := ⟨_, rfl⟩
        rw [← hp11] at HQ ⊢
        have ty : Turns [] X0 y1 := HR.out.2.2.1.trans HQ.out.2 (by intro x hx; simp at hx; exact .inr (by omega))
        have v4 := H0.out.1.turns ty (by simp)
        have v8 := H0.out.2.1.turns ty (by simp)
        have v11 := HQ.out.1
        have r4 := v4.range 0 32
        rw [List.drop_zero, List.take_of_length_le (by rw [bvs_length, HR.out.2.2.2.2.2]; omega)] at r4
        have hsm := HR.out.2.2.2.1.turns (H0.out.2.2.1.trans ty (by simp)) H0.out.2.2.2.2.1 (by simp)
        have hBy : B ≤ y1.heap.size := Nat.le_trans H0.out.2.2.2.2.1 (H0.out.2.2.1.trans ty (by simp)).size
        have n48 : p8 ≠ p11 := by have := H0.out.2.1.lt; omega
        have h811 : w.heap.size ≤ p8 := by have := HP.out; omega
        have HV := Lib.hid (And.intro v8 (And.intro v11 (And.intro r4 (And.intro hsm (And.intro hBy (And.intro (H0.out.2.2.1.trans ty (by simp)) (And.intro n48 h811)))))))
        obtain ⟨Y, hY⟩ : ∃ Y, Y = y1.drew := ⟨_, rfl⟩
        have S0 : Turns [] y1 Y := by rw [hY]; exact (Turns.refl _ _).drew
        have HY := Lib.hid hY
        clear ty v4 v8 v11 r4 hsm hBy n48 h811 hp11 hY HQ
        by_cases hik : i < k
        · have IH := Lib.hid (IHL hik)
          have HLP := Lib.hid (fun x is (hq : LedP h i k (p.take (m - 1)) x is) => HLL.out x is hq hik)
          have zik : (i : Int) < (k : Int) := by omega
          have wm1 : IntKind.i64.wrap ((m : Int) - 1) = ((m - 1 : Nat) : Int) := by rw [IntWalk.i64_in _ (by omega)]; omega
          have hm1c : ((m - 1 : Nat) : Int) ≤ (c : Int) := by omega
          clear IHL IHR HLL HLR hik IHN
          go_upto_region 8 with fail
          refine reg_begin (fun W => Turns [] y1 W) (fun _ => True) 15 15 #[false, false, false, false, false, false, false, false, false, false, false, false, false, false, false] (by kernel_rfl) (by kernel_rfl) (by kernel_rfl) ?_
          rw [← HY.out]
          refine reg_take_y 0 38 14 #[true, false, false, false, false, false, false, false, false, false, false, false, false, false, false] (by rfl) rfl rfl (by kernel_rfl) (by kernel_rfl) (by kernel_rfl) (by kernel_rfl) (fun _ _ _ h => h) (yieldsIf_load_mid (by rfl) _ _ rfl p4 0 (by rfl) (bvs h) _ (fun W hS => rangeT hS HV.out.2.2.1 (by simp)) Try.underlying27 rfl hsh.out) (Till.mk' S0 trivial) ?_
          try simp only [List.setIfInBounds_toArray, List.set_cons_succ, List.set_cons_zero]
          refine reg_take 1 39 13 #[true, true, false, false, false, false, false, false, false, false, false, false, false, false, false] (by rfl) (v := ?_) rfl rfl (by kernel_rfl) (by kernel_rfl) (by kernel_rfl) (by kernel_rfl) (fun _ _ _ h => h) (by rfl) ?_ (Till.mk' S0 trivial) ?_
          rotate_left
          · intro W hS; go_simp; all_goals with_reducible rfl
          try simp only [List.setIfInBounds_toArray, List.set_cons_succ, List.set_cons_zero]
          refine reg_take 2 40 12 #[true, true, true, false, false, false, false, false, false, false, false, false, false, false, false] (by rfl) (v := ?_) rfl rfl (by kernel_rfl) (by kernel_rfl) (by kernel_rfl) (by kernel_rfl) (fun _ _ _ h => h) (by rfl) ?_ (Till.mk' S0 trivial) ?_
          rotate_left
          · intro W hS; go_simp; all_goals with_reducible rfl
          try simp only [List.setIfInBounds_toArray, List.set_cons_succ, List.set_cons_zero]
          refine reg_take 3 41 11 #[true, true, true, true, false, false, false, false, false, false, false, false, false, false, false] (by rfl) (v := ?_) rfl rfl (by kernel_rfl) (by kernel_rfl) (by kernel_rfl) (by kernel_rfl) (fun _ _ _ h => h) (by rfl) ?_ (Till.mk' S0 trivial) ?_
          rotate_left
          · intro W hS; go_simp; all_goals with_reducible rfl
          try simp only [List.setIfInBounds_toArray, List.set_cons_succ, List.set_cons_zero]
          refine reg_take 4 42 10 #[true, true, true, true, true, false, false, false, false, false, false, false, false, false, false] (by rfl) (v := ?_) rfl rfl (by kernel_rfl) (by kernel_rfl) (by kernel_rfl) (by kernel_rfl) (fun _ _ _ h => h) (by rfl) ?_ (Till.mk' S0 trivial) ?_
          rotate_left
          · intro W hS; go_simp; all_goals with_reducible rfl
          try simp only [List.setIfInBounds_toArray, List.set_cons_succ, List.set_cons_zero]
          refine reg_take 5 43 9 #[true, true, true, true, true, true, false, false, false, false, false, false, false, false, false] (by rfl) (v := ?_) rfl rfl (by kernel_rfl) (by kernel_rfl) (by kernel_rfl) (by kernel_rfl) (fun _ _ _ h => h) (by rfl) ?_ (Till.mk' S0 trivial) ?_
          rotate_left
          · intro W hS; go_simp; all_goals with_reducible rfl
          try simp only [List.setIfInBounds_toArray, List.set_cons_succ, List.set_cons_zero]
          refine reg_take 6 44 8 #[true, true, true, true, true, true, true, false, false, false, false, false, false, false, false] (by rfl) (v := ?_) rfl rfl (by kernel_rfl) (by kernel_rfl) (by kernel_rfl) (by kernel_rfl) (fun _ _ _ h => h) (by rfl) ?_ (Till.mk' S0 trivial) ?_
          rotate_left
          · intro W hS; go_simp; all_goals with_reducible rfl
          try simp only [List.setIfInBounds_toArray, List.set_cons_succ, List.set_cons_zero]
          refine reg_take 7 45 7 #[true, true, true, true, true, true, true, true, false, false, false, false, false, false, false] (by rfl) (v := ?_) rfl rfl (by kernel_rfl) (by kernel_rfl) (by kernel_rfl) (by kernel_rfl) (fun _ _ _ h => h) (by rfl) ?_ (Till.mk' S0 trivial) ?_
          rotate_left
          · intro W hS; go_simp; all_goals with_reducible rfl
          try simp only [List.setIfInBounds_toArray, List.set_cons_succ, List.set_cons_zero]
          refine reg_two 8 12 6 #[true, true, true, true, true, true, true, true, true, false, false, false, false, false, false] #[true, true, true, true, true, true, true, true, false, false, false, false, true, false, false] (by kernel_rfl) rfl rfl (by rfl) (by rfl) (by kernel_rfl) (by kernel_rfl) (fun K hK => ?_) (fun K hK => ?_)
          · go_simp
            refine (IH.out Y (HV.out.2.2.2.1.turns S0 HV.out.2.2.2.2.1 (by simp)) (Nat.le_trans HV.out.2.2.2.2.1 S0.size)).mono ?_
            rintro e X8 ⟨x, is, hled, rfl, D8⟩
            refine hK _ _ (Till.mk' (S0.trans D8 (by simp)) trivial) ?_
            clear hK K
            try simp only [List.setIfInBounds_toArray, List.set_cons_succ, List.set_cons_zero]
            refine reg_take 9 37 5 #[true, true, true, true, true, true, true, true, true, true, false, false, false, false, false] (by rfl) (v := ?_) rfl rfl (by kernel_rfl) (by kernel_rfl) (by kernel_rfl) (by kernel_rfl) (fun _ _ _ h => h) (by rfl) ?_ (Till.mk' (S0.trans D8 (by simp)) trivial) ?_
            rotate_left
            · intro W hS; go_simp; all_goals with_reducible rfl
            try simp only [List.setIfInBounds_toArray, List.set_cons_succ, List.set_cons_zero]
            refine reg_take 10 47 4 #[true, true, true, true, true, true, true, true, true, true, true, false, false, false, false] (by rfl) (v := ?_) rfl rfl (by kernel_rfl) (by kernel_rfl) (by kernel_rfl) (by kernel_rfl) (fun _ _ _ h => h) (by rfl) ?_ (Till.mk' (S0.trans D8 (by simp)) trivial) ?_
            rotate_left
            · intro W hS; go_simp; all_goals with_reducible rfl
            try simp only [List.setIfInBounds_toArray, List.set_cons_succ, List.set_cons_zero]
            refine reg_take 11 48 3 #[true, true, true, true, true, true, true, true, true, true, true, true, false, false, false] (by rfl) (v := ?_) rfl rfl (by kernel_rfl) (by kernel_rfl) (by kernel_rfl) (by kernel_rfl) (fun _ _ _ h => h) (by rfl) ?_ (Till.mk' (S0.trans D8 (by simp)) trivial) ?_
            rotate_left
            · intro W hS; go_simp; all_goals with_reducible rfl
            try simp only [List.setIfInBounds_toArray, List.set_cons_succ, List.set_cons_zero]
            refine reg_one 12 2 #[true, true, true, true, true, true, true, true, true, true, true, true, true, false, false] (by kernel_rfl) rfl (by rfl) (by kernel_rfl) (fun K hK => ?_)
            refine wp_alloc_arr 27 (by rfl) zz.toArray hz32 ?_
            obtain ⟨X12, hX12⟩ : ∃ q, q = (X8).alloc (.cells zz.toArray 27) := ⟨_, rfl⟩
            obtain ⟨p12, hp12⟩ : ∃ q, q = (X8).heap.size := ⟨_, rfl⟩
            have D12 : Turns [] (X8) X12 := by rw [hX12]; exact (Turns.refl _ _).alloc _
            have K12 : Blk X12 p12 zz 27 := by rw [hX12, hp12]; exact Blk.new _ _ _
            have L12 : y1.heap.size ≤ p12 := by rw [hp12]; exact (S0.trans D8 (by simp)).size
            rw [← hX12, ← hp12]
            clear hX12 hp12
            refine hK _ _ (Till.mk' ((S0.trans D8 (by simp)).trans D12 (by simp)) trivial) ?_
            clear hK K
            try simp only [List.setIfInBounds_toArray, List.set_cons_succ, List.set_cons_zero]
            refine reg_one 13 1 #[true, true, true, true, true, true, true, true, true, true, true, true, true, true, false] (by kernel_rfl) rfl (by rfl) (by kernel_rfl) (fun K hK => ?_)
            have hx32 := hled.1
            have T13 := ((S0.trans D8 (by simp)).trans D12 (by simp))
            have K13 := K12.turns (Turns.refl [] X12) (by simp)
            refine wp_store_blk 27 _ _ (by rfl) p12 (by rfl) (bvs x) zz 27 (by rfl) K13 (by rw [HZL.out, bvs_length, hx32]) (by rw [size_hash, bvs_length, hx32]) (bvs_one _) (fun X13 hb13 ht13 => ?_)
            have S13 : Turns [] y1 X13 := T13.trans ht13 (by intro q hq; simp at hq; subst hq; exact .inr L12)
            refine hK _ _ (Till.mk' S13 trivial) ?_
            clear hK K
            try simp only [List.setIfInBounds_toArray, List.set_cons_succ, List.set_cons_zero]
            refine reg_take 14 13 0 #[true, true, true, true, true, true, true, true, true, true, true, true, true, true, true] (by rfl) (v := ?_) rfl rfl (by kernel_rfl) (by kernel_rfl) (by kernel_rfl) (by kernel_rfl) (fun _ _ _ h => h) (by rfl) ?_ (Till.mk' S13 trivial) ?_
            rotate_left
            · intro W hS; go_simp; all_goals with_reducible rfl
            try simp only [List.setIfInBounds_toArray, List.set_cons_succ, List.set_cons_zero]
            refine reg_done (by kernel_rfl) ?_ _
            have hx32 := hled.1
            have HN := Lib.hid (And.intro hb13 (And.intro (HV.out.2.1.turns S13 (by simp)) (And.intro (HV.out.1.turns S13 (by simp)) (And.intro (HV.out.2.2.2.2.2.1.trans S13 (by simp)) (HLP.out x is hled)))))
            have hsx := Lib.hid (show (Try.prog.info? 27).map (·.size) = some (bvs x).length by rw [size_hash, bvs_length, hx32])
            have HX32 := Lib.hid hx32
            clear hb13 ht13 S13 hled hx32 T13 K13 L12 K12
            go_wp2_with (first
              | (refine wpList_load_blk (o := ⟨some 49, _, _, _, _, _⟩) rfl 27 (.tmp 12) rfl p12 (by kernel_rfl) (bvs x) _ _ HN.out.1 Try.underlying27 rfl hsx.out ?_)
              | (refine wpList_load_blk (o := ⟨some 50, _, _, _, _, _⟩) rfl 27 (.tmp 11) rfl p11 (by kernel_rfl) (bvs l) _ _ HN.out.2.1 Try.underlying27 rfl hsl.out ?_)
              | fail)
            refine (Two_any x l HX32.out HR.out.2.2.2.2.1 _).mono ?_
            rintro e X14 ⟨rfl, t14⟩
            have h8 := HN.out.2.2.1.turns t14 (by simp)
            have H8 := Lib.hid h8
            have HT14 := Lib.hid t14
            have h2l := twoH_len x l
            have Q_l := Lib.hid (show zz.length = (bvs (twoH x l)).length by rw [HZL.out, bvs_length, h2l])
            have Q_sz := Lib.hid (show (Try.prog.info? 27).map (·.size) = some (bvs (twoH x l)).length by rw [size_hash, bvs_length, h2l])
            clear h8 t14 h2l
            go_wp2_with (first
              | (refine wpList_store_blk rfl 27 (.tmp 8) (.tmp 51) rfl p8 (by kernel_rfl) (bvs (twoH x l)) zz 27 (by kernel_rfl) H8.out Q_l.out Q_sz.out (bvs_one _) (fun w9 hb9 ht9 hs9 => ?_); have HQ9 := Lib.hid (And.intro hb9 ht9); clear hb9 ht9 hs9)
              | fail)
            refine bodyPost_ret (results_two rfl _ _ p8 _ _ _ (.bool is) (by kernel_rfl) (by kernel_rfl) HQ9.out.1 Try.underlying27 rfl (by rw [List.size_toArray]; exact Q_sz.out)) rfl ?_
            exact ⟨twoH x l, is, HN.out.2.2.2.2, rfl, (HN.out.2.2.2.1.trans HT14.out (by simp)).trans HQ9.out.2 (by intro q hq; simp at hq; subst hq; exact .inr HV.out.2.2.2.2.2.2.2)⟩
          · refine wp_alloc_arr 27 (by rfl) zz.toArray hz32 ?_
            obtain ⟨X12, hX12⟩ : ∃ q, q = (Y).alloc (.cells zz.toArray 27) := ⟨_, rfl⟩
            obtain ⟨p12, hp12⟩ : ∃ q, q = (Y).heap.size := ⟨_, rfl⟩
            have D12 : Turns [] (Y) X12 := by rw [hX12]; exact (Turns.refl _ _).alloc _
            have K12 : Blk X12 p12 zz 27 := by rw [hX12, hp12]; exact Blk.new _ _ _
            have L12 : y1.heap.size ≤ p12 := by rw [hp12]; exact S0.size
            rw [← hX12, ← hp12]
            clear hX12 hp12
            refine hK _ _ (Till.mk' (S0.trans D12 (by simp)) trivial) ?_
            clear hK K
            try simp only [List.setIfInBounds_toArray, List.set_cons_succ, List.set_cons_zero]
            refine reg_one 8 5 #[true, true, true, true, true, true, true, true, true, false, false, false, true, false, false] (by kernel_rfl) rfl (by rfl) (by kernel_rfl) (fun K hK => ?_)
            go_simp
            refine (IH.out X12 (HV.out.2.2.2.1.turns (S0.trans D12 (by simp)) HV.out.2.2.2.2.1 (by simp)) (Nat.le_trans HV.out.2.2.2.2.1 (S0.trans D12 (by simp)).size)).mono ?_
            rintro e X8 ⟨x, is, hled, rfl, D8⟩
            refine hK _ _ (Till.mk' ((S0.trans D12 (by simp)).trans D8 (by simp)) trivial) ?_
            clear hK K
            try simp only [List.setIfInBounds_toArray, List.set_cons_succ, List.set_cons_zero]
            refine reg_take 9 37 4 #[true, true, true, true, true, true, true, true, true, true, false, false, true, false, false] (by rfl) (v := ?_) rfl rfl (by kernel_rfl) (by kernel_rfl) (by kernel_rfl) (by kernel_rfl) (fun _ _ _ h => h) (by rfl) ?_ (Till.mk' ((S0.trans D12 (by simp)).trans D8 (by simp)) trivial) ?_
            rotate_left
            · intro W hS; go_simp; all_goals with_reducible rfl
            try simp only [List.setIfInBounds_toArray, List.set_cons_succ, List.set_cons_zero]
            refine reg_take 10 47 3 #[true, true, true, true, true, true, true, true, true, true, true, false, true, false, false] (by rfl) (v := ?_) rfl rfl (by kernel_rfl) (by kernel_rfl) (by kernel_rfl) (by kernel_rfl) (fun _ _ _ h => h) (by rfl) ?_ (Till.mk' ((S0.trans D12 (by simp)).trans D8 (by simp)) trivial) ?_
            rotate_left
            · intro W hS; go_simp; all_goals with_reducible rfl
            try simp only [List.setIfInBounds_toArray, List.set_cons_succ, List.set_cons_zero]
            refine reg_take 11 48 2 #[true, true, true, true, true, true, true, true, true, true, true, true, true, false, false] (by rfl) (v := ?_) rfl rfl (by kernel_rfl) (by kernel_rfl) (by kernel_rfl) (by kernel_rfl) (fun _ _ _ h => h) (by rfl) ?_ (Till.mk' ((S0.trans D12 (by simp)).trans D8 (by simp)) trivial) ?_
            rotate_left
            · intro W hS; go_simp; all_goals with_reducible rfl
            try simp only [List.setIfInBounds_toArray, List.set_cons_succ, List.set_cons_zero]
            refine reg_one 13 1 #[true, true, true, true, true, true, true, true, true, true, true, true, true, true, false] (by kernel_rfl) rfl (by rfl) (by kernel_rfl) (fun K hK => ?_)
            have hx32 := hled.1
            have T13 := ((S0.trans D12 (by simp)).trans D8 (by simp))
            have K13 := K12.turns ((Turns.refl [] X12).trans D8 (by simp)) (by simp)
            refine wp_store_blk 27 _ _ (by rfl) p12 (by rfl) (bvs x) zz 27 (by rfl) K13 (by rw [HZL.out, bvs_length, hx32]) (by rw [size_hash, bvs_length, hx32]) (bvs_one _) (fun X13 hb13 ht13 => ?_)
            have S13 : Turns [] y1 X13 := T13.trans ht13 (by intro q hq; simp at hq; subst hq; exact .inr L12)
            refine hK _ _ (Till.mk' S13 trivial) ?_
            clear hK K
            try simp only [List.setIfInBounds_toArray, List.set_cons_succ, List.set_cons_zero]
            refine reg_take 14 13 0 #[true, true, true, true, true, true, true, true, true, true, true, true, true, true, true] (by rfl) (v := ?_) rfl rfl (by kernel_rfl) (by kernel_rfl) (by kernel_rfl) (by kernel_rfl) (fun _ _ _ h => h) (by rfl) ?_ (Till.mk' S13 trivial) ?_
            rotate_left
            · intro W hS; go_simp; all_goals with_reducible rfl
            try simp only [List.setIfInBounds_toArray, List.set_cons_succ, List.set_cons_zero]
            refine reg_done (by kernel_rfl) ?_ _
            have hx32 := hled.1
            have HN := Lib.hid (And.intro hb13 (And.intro (HV.out.2.1.turns S13 (by simp)) (And.intro (HV.out.1.turns S13 (by simp)) (And.intro (HV.out.2.2.2.2.2.1.trans S13 (by simp)) (HLP.out x is hled)))))
            have hsx := Lib.hid (show (Try.prog.info? 27).map (·.size) = some (bvs x).length by rw [size_hash, bvs_length, hx32])
            have HX32 := Lib.hid hx32
            clear hb13 ht13 S13 hled hx32 T13 K13 L12 K12
            go_wp2_with (first
              | (refine wpList_load_blk (o := ⟨some 49, _, _, _, _, _⟩) rfl 27 (.tmp 12) rfl p12 (by kernel_rfl) (bvs x) _ _ HN.out.1 Try.underlying27 rfl hsx.out ?_)
              | (refine wpList_load_blk (o := ⟨some 50, _, _, _, _, _⟩) rfl 27 (.tmp 11) rfl p11 (by kernel_rfl) (bvs l) _ _ HN.out.2.1 Try.underlying27 rfl hsl.out ?_)
              | fail)
            refine (Two_any x l HX32.out HR.out.2.2.2.2.1 _).mono ?_
            rintro e X14 ⟨rfl, t14⟩
            have h8 := HN.out.2.2.1.turns t14 (by simp)
            have H8 := Lib.hid h8
            have HT14 := Lib.hid t14
            have h2l := twoH_len x l
            have Q_l := Lib.hid (show zz.length = (bvs (twoH x l)).length by rw [HZL.out, bvs_length, h2l])
            have Q_sz := Lib.hid (show (Try.prog.info? 27).map (·.size) = some (bvs (twoH x l)).length by rw [size_hash, bvs_length, h2l])
            clear h8 t14 h2l
            go_wp2_with (first
              | (refine wpList_store_blk rfl 27 (.tmp 8) (.tmp 51) rfl p8 (by kernel_rfl) (bvs (twoH x l)) zz 27 (by kernel_rfl) H8.out Q_l.out Q_sz.out (bvs_one _) (fun w9 hb9 ht9 hs9 => ?_); have HQ9 := Lib.hid (And.intro hb9 ht9); clear hb9 ht9 hs9)
              | fail)
            refine bodyPost_ret (results_two rfl _ _ p8 _ _ _ (.bool is) (by kernel_rfl) (by kernel_rfl) HQ9.out.1 Try.underlying27 rfl (by rw [List.size_toArray]; exact Q_sz.out)) rfl ?_
            exact ⟨twoH x l, is, HN.out.2.2.2.2, rfl, (HN.out.2.2.2.1.trans HT14.out (by simp)).trans HQ9.out.2 (by intro q hq; simp at hq; subst hq; exact .inr HV.out.2.2.2.2.2.2.2)⟩
        · have IH := Lib.hid (IHR hik)
          have HLP := Lib.hid (fun x is (hq : LedP h (i - k) (n - k) (p.take (m - 1)) x is) => HLR.out x is hq hik)
          have zik : ¬ (i : Int) < (k : Int) := by omega
          have wik : IntKind.i64.wrap ((i : Int) - (k : Int)) = ((i - k : Nat) : Int) := by have := HK.out; rw [IntWalk.i64_in _ (by omega)]; omega
          have wnk : IntKind.i64.wrap ((n : Int) - (k : Int)) = ((n - k : Nat) : Int) := by have := HK.out; rw [IntWalk.i64_in _ (by omega)]; omega
          have wm1 : IntKind.i64.wrap ((m : Int) - 1) = ((m - 1 : Nat) : Int) := by rw [IntWalk.i64_in _ (by omega)]; omega
          have hm1c : ((m - 1 : Nat) : Int) ≤ (c : Int) := by omega
          clear IHL IHR HLL HLR hik IHN
          go_upto_region 10 with fail
          refine reg_begin (fun W => Turns [] y1 W) (fun _ => True) 19 19 #[false, false, false, false, false, false, false, false, false, false, false, false, false, false, false, false, false, false, false] (by kernel_rfl) (by kernel_rfl) (by kernel_rfl) ?_
          rw [← HY.out]
          refine reg_take_y 0 54 18 #[true, false, false, false, false, false, false, false, false, false, false, false, false, false, false, false, false, false, false] (by rfl) rfl rfl (by kernel_rfl) (by kernel_rfl) (by kernel_rfl) (by kernel_rfl) (fun _ _ _ h => h) (yieldsIf_load_mid (by rfl) _ _ rfl p4 0 (by rfl) (bvs h) _ (fun W hS => rangeT hS HV.out.2.2.1 (by simp)) Try.underlying27 rfl hsh.out) (Till.mk' S0 trivial) ?_
          try simp only [List.setIfInBounds_toArray, List.set_cons_succ, List.set_cons_zero]
          refine reg_take 1 55 17 #[true, true, false, false, false, false, false, false, false, false, false, false, false, false, false, false, false, false, false] (by rfl) (v := ?_) rfl rfl (by kernel_rfl) (by kernel_rfl) (by kernel_rfl) (by kernel_rfl) (fun _ _ _ h => h) (by rfl) ?_ (Till.mk' S0 trivial) ?_
          rotate_left
          · intro W hS; go_simp; all_goals with_reducible rfl
          try simp only [List.setIfInBounds_toArray, List.set_cons_succ, List.set_cons_zero]
          refine reg_take 2 56 16 #[true, true, true, false, false, false, false, false, false, false, false, false, false, false, false, false, false, false, false] (by rfl) (v := ?_) rfl rfl (by kernel_rfl) (by kernel_rfl) (by kernel_rfl) (by kernel_rfl) (fun _ _ _ h => h) (by rfl) ?_ (Till.mk' S0 trivial) ?_
          rotate_left
          · intro W hS; go_simp; all_goals with_reducible rfl
          try simp only [List.setIfInBounds_toArray, List.set_cons_succ, List.set_cons_zero]
          refine reg_take 3 57 15 #[true, true, true, true, false, false, false, false, false, false, false, false, false, false, false, false, false, false, false] (by rfl) (v := ?_) rfl rfl (by kernel_rfl) (by kernel_rfl) (by kernel_rfl) (by kernel_rfl) (fun _ _ _ h => h) (by rfl) ?_ (Till.mk' S0 trivial) ?_
          rotate_left
          · intro W hS; go_simp; all_goals with_reducible rfl
          try simp only [List.setIfInBounds_toArray, List.set_cons_succ, List.set_cons_zero]
          refine reg_take 4 58 14 #[true, true, true, true, true, false, false, false, false, false, false, false, false, false, false, false, false, false, false] (by rfl) (v := ?_) rfl rfl (by kernel_rfl) (by kernel_rfl) (by kernel_rfl) (by kernel_rfl) (fun _ _ _ h => h) (by rfl) ?_ (Till.mk' S0 trivial) ?_
          rotate_left
          · intro W hS; go_simp; all_goals with_reducible rfl
          try simp only [List.setIfInBounds_toArray, List.set_cons_succ, List.set_cons_zero]
          refine reg_take 5 59 13 #[true, true, true, true, true, true, false, false, false, false, false, false, false, false, false, false, false, false, false] (by rfl) (v := ?_) rfl rfl (by kernel_rfl) (by kernel_rfl) (by kernel_rfl) (by kernel_rfl) (fun _ _ _ h => h) (by rfl) ?_ (Till.mk' S0 trivial) ?_
          rotate_left
          · intro W hS; go_simp; all_goals with_reducible rfl
          try simp only [List.setIfInBounds_toArray, List.set_cons_succ, List.set_cons_zero]
          refine reg_take 6 60 12 #[true, true, true, true, true, true, true, false, false, false, false, false, false, false, false, false, false, false, false] (by rfl) (v := ?_) rfl rfl (by kernel_rfl) (by kernel_rfl) (by kernel_rfl) (by kernel_rfl) (fun _ _ _ h => h) (by rfl) ?_ (Till.mk' S0 trivial) ?_
          rotate_left
          · intro W hS; go_simp; all_goals with_reducible rfl
          try simp only [List.setIfInBounds_toArray, List.set_cons_succ, List.set_cons_zero]
          refine reg_take 7 61 11 #[true, true, true, true, true, true, true, true, false, false, false, false, false, false, false, false, false, false, false] (by rfl) (v := ?_) rfl rfl (by kernel_rfl) (by kernel_rfl) (by kernel_rfl) (by kernel_rfl) (fun _ _ _ h => h) (by rfl) ?_ (Till.mk' S0 trivial) ?_
          rotate_left
          · intro W hS; go_simp; all_goals with_reducible rfl
          try simp only [List.setIfInBounds_toArray, List.set_cons_succ, List.set_cons_zero]
          refine reg_take 8 62 10 #[true, true, true, true, true, true, true, true, true, false, false, false, false, false, false, false, false, false, false] (by rfl) (v := ?_) rfl rfl (by kernel_rfl) (by kernel_rfl) (by kernel_rfl) (by kernel_rfl) (fun _ _ _ h => h) (by rfl) ?_ (Till.mk' S0 trivial) ?_
          rotate_left
          · intro W hS; go_simp; all_goals with_reducible rfl
          try simp only [List.setIfInBounds_toArray, List.set_cons_succ, List.set_cons_zero]
          refine reg_take 9 63 9 #[true, true, true, true, true, true, true, true, true, true, false, false, false, false, false, false, false, false, false] (by rfl) (v := ?_) rfl rfl (by kernel_rfl) (by kernel_rfl) (by kernel_rfl) (by kernel_rfl) (fun _ _ _ h => h) (by rfl) ?_ (Till.mk' S0 trivial) ?_
          rotate_left
          · intro W hS; go_simp; all_goals with_reducible rfl
          try simp only [List.setIfInBounds_toArray, List.set_cons_succ, List.set_cons_zero]
          refine reg_take 10 64 8 #[true, true, true, true, true, true, true, true, true, true, true, false, false, false, false, false, false, false, false] (by rfl) (v := ?_) rfl rfl (by kernel_rfl) (by kernel_rfl) (by kernel_rfl) (by kernel_rfl) (fun _ _ _ h => h) (by rfl) ?_ (Till.mk' S0 trivial) ?_
          rotate_left
          · intro W hS; go_simp; all_goals with_reducible rfl
          try simp only [List.setIfInBounds_toArray, List.set_cons_succ, List.set_cons_zero]
          refine reg_take 11 65 7 #[true, true, true, true, true, true, true, true, true, true, true, true, false, false, false, false, false, false, false] (by rfl) (v := ?_) rfl rfl (by kernel_rfl) (by kernel_rfl) (by kernel_rfl) (by kernel_rfl) (fun _ _ _ h => h) (by rfl) ?_ (Till.mk' S0 trivial) ?_
          rotate_left
          · intro W hS; go_simp; all_goals with_reducible rfl
          try simp only [List.setIfInBounds_toArray, List.set_cons_succ, List.set_cons_zero]
          refine reg_two 12 16 6 #[true, true, true, true, true, true, true, true, true, true, true, true, true, false, false, false, false, false, false] #[true, true, true, true, true, true, true, true, true, true, true, true, false, false, false, false, true, false, false] (by kernel_rfl) rfl rfl (by rfl) (by rfl) (by kernel_rfl) (by kernel_rfl) (fun K hK => ?_) (fun K hK => ?_)
          · go_simp
            refine (IH.out Y (HV.out.2.2.2.1.turns S0 HV.out.2.2.2.2.1 (by simp)) (Nat.le_trans HV.out.2.2.2.2.1 S0.size)).mono ?_
            rintro e X8 ⟨x, is, hled, rfl, D8⟩
            refine hK _ _ (Till.mk' (S0.trans D8 (by simp)) trivial) ?_
            clear hK K
            try simp only [List.setIfInBounds_toArray, List.set_cons_succ, List.set_cons_zero]
            refine reg_take 13 53 5 #[true, true, true, true, true, true, true, true, true, true, true, true, true, true, false, false, false, false, false] (by rfl) (v := ?_) rfl rfl (by kernel_rfl) (by kernel_rfl) (by kernel_rfl) (by kernel_rfl) (fun _ _ _ h => h) (by rfl) ?_ (Till.mk' (S0.trans D8 (by simp)) trivial) ?_
            rotate_left
            · intro W hS; go_simp; all_goals with_reducible rfl
            try simp only [List.setIfInBounds_toArray, List.set_cons_succ, List.set_cons_zero]
            refine reg_take 14 67 4 #[true, true, true, true, true, true, true, true, true, true, true, true, true, true, true, false, false, false, false] (by rfl) (v := ?_) rfl rfl (by kernel_rfl) (by kernel_rfl) (by kernel_rfl) (by kernel_rfl) (fun _ _ _ h => h) (by rfl) ?_ (Till.mk' (S0.trans D8 (by simp)) trivial) ?_
            rotate_left
            · intro W hS; go_simp; all_goals with_reducible rfl
            try simp only [List.setIfInBounds_toArray, List.set_cons_succ, List.set_cons_zero]
            refine reg_take 15 68 3 #[true, true, true, true, true, true, true, true, true, true, true, true, true, true, true, true, false, false, false] (by rfl) (v := ?_) rfl rfl (by kernel_rfl) (by kernel_rfl) (by kernel_rfl) (by kernel_rfl) (fun _ _ _ h => h) (by rfl) ?_ (Till.mk' (S0.trans D8 (by simp)) trivial) ?_
            rotate_left
            · intro W hS; go_simp; all_goals with_reducible rfl
            try simp only [List.setIfInBounds_toArray, List.set_cons_succ, List.set_cons_zero]
            refine reg_one 16 2 #[true, true, true, true, true, true, true, true, true, true, true, true, true, true, true, true, true, false, false] (by kernel_rfl) rfl (by rfl) (by kernel_rfl) (fun K hK => ?_)
            refine wp_alloc_arr 27 (by rfl) zz.toArray hz32 ?_
            obtain ⟨X12, hX12⟩ : ∃ q, q = (X8).alloc (.cells zz.toArray 27) := ⟨_, rfl⟩
            obtain ⟨p12, hp12⟩ : ∃ q, q = (X8).heap.size := ⟨_, rfl⟩
            have D12 : Turns [] (X8) X12 := by rw [hX12]; exact (Turns.refl _ _).alloc _
            have K12 : Blk X12 p12 zz 27 := by rw [hX12, hp12]; exact Blk.new _ _ _
            have L12 : y1.heap.size ≤ p12 := by rw [hp12]; exact (S0.trans D8 (by simp)).size
            rw [← hX12, ← hp12]
            clear hX12 hp12
            refine hK _ _ (Till.mk' ((S0.trans D8 (by simp)).trans D12 (by simp)) trivial) ?_
            clear hK K
            try simp only [List.setIfInBounds_toArray, List.set_cons_succ, List.set_cons_zero]
            refine reg_one 17 1 #[true, true, true, true, true, true, true, true, true, true, true, true, true, true, true, true, true, true, false] (by kernel_rfl) rfl (by rfl) (by kernel_rfl) (fun K hK => ?_)
            have hx32 := hled.1
            have T13 := ((S0.trans D8 (by simp)).trans D12 (by simp))
            have K13 := K12.turns (Turns.refl [] X12) (by simp)
            refine wp_store_blk 27 _ _ (by rfl) p12 (by rfl) (bvs x) zz 27 (by rfl) K13 (by rw [HZL.out, bvs_length, hx32]) (by rw [size_hash, bvs_length, hx32]) (bvs_one _) (fun X13 hb13 ht13 => ?_)
            have S13 : Turns [] y1 X13 := T13.trans ht13 (by intro q hq; simp at hq; subst hq; exact .inr L12)
            refine hK _ _ (Till.mk' S13 trivial) ?_
            clear hK K
            try simp only [List.setIfInBounds_toArray, List.set_cons_succ, List.set_cons_zero]
            refine reg_take 18 15 0 #[true, true, true, true, true, true, true, true, true, true, true, true, true, true, true, true, true, true, true] (by rfl) (v := ?_) rfl rfl (by kernel_rfl) (by kernel_rfl) (by kernel_rfl) (by kernel_rfl) (fun _ _ _ h => h) (by rfl) ?_ (Till.mk' S13 trivial) ?_
            rotate_left
            · intro W hS; go_simp; all_goals with_reducible rfl
            try simp only [List.setIfInBounds_toArray, List.set_cons_succ, List.set_cons_zero]
            refine reg_done (by kernel_rfl) ?_ _
            have hx32 := hled.1
            have HN := Lib.hid (And.intro hb13 (And.intro (HV.out.2.1.turns S13 (by simp)) (And.intro (HV.out.1.turns S13 (by simp)) (And.intro (HV.out.2.2.2.2.2.1.trans S13 (by simp)) (HLP.out x is hled)))))
            have hsx := Lib.hid (show (Try.prog.info? 27).map (·.size) = some (bvs x).length by rw [size_hash, bvs_length, hx32])
            have HX32 := Lib.hid hx32
            clear hb13 ht13 S13 hled hx32 T13 K13 L12 K12
            go_wp2_with (first
              | (refine wpList_load_blk (o := ⟨some 70, _, _, _, _, _⟩) rfl 27 (.tmp 14) rfl p12 (by kernel_rfl) (bvs x) _ _ HN.out.1 Try.underlying27 rfl hsx.out ?_)
              | (refine wpList_load_blk (o := ⟨some 69, _, _, _, _, _⟩) rfl 27 (.tmp 11) rfl p11 (by kernel_rfl) (bvs l) _ _ HN.out.2.1 Try.underlying27 rfl hsl.out ?_)
              | fail)
            refine (Two_any l x HR.out.2.2.2.2.1 HX32.out _).mono ?_
            rintro e X14 ⟨rfl, t14⟩
            have h8 := HN.out.2.2.1.turns t14 (by simp)
            have H8 := Lib.hid h8
            have HT14 := Lib.hid t14
            have h2l := twoH_len l x
            have Q_l := Lib.hid (show zz.length = (bvs (twoH l x)).length by rw [HZL.out, bvs_length, h2l])
            have Q_sz := Lib.hid (show (Try.prog.info? 27).map (·.size) = some (bvs (twoH l x)).length by rw [size_hash, bvs_length, h2l])
            clear h8 t14 h2l
            go_wp2_with (first
              | (refine wpList_store_blk rfl 27 (.tmp 8) (.tmp 71) rfl p8 (by kernel_rfl) (bvs (twoH l x)) zz 27 (by kernel_rfl) H8.out Q_l.out Q_sz.out (bvs_one _) (fun w9 hb9 ht9 hs9 => ?_); have HQ9 := Lib.hid (And.intro hb9 ht9); clear hb9 ht9 hs9)
              | fail)
            refine bodyPost_ret (results_two rfl _ _ p8 _ _ _ (.bool is) (by kernel_rfl) (by kernel_rfl) HQ9.out.1 Try.underlying27 rfl (by rw [List.size_toArray]; exact Q_sz.out)) rfl ?_
            exact ⟨twoH l x, is, HN.out.2.2.2.2, rfl, (HN.out.2.2.2.1.trans HT14.out (by simp)).trans HQ9.out.2 (by intro q hq; simp at hq; subst hq; exact .inr HV.out.2.2.2.2.2.2.2)⟩
          · refine wp_alloc_arr 27 (by rfl) zz.toArray hz32 ?_
            obtain ⟨X12, hX12⟩ : ∃ q, q = (Y).alloc (.cells zz.toArray 27) := ⟨_, rfl⟩
            obtain ⟨p12, hp12⟩ : ∃ q, q = (Y).heap.size := ⟨_, rfl⟩
            have D12 : Turns [] (Y) X12 := by rw [hX12]; exact (Turns.refl _ _).alloc _
            have K12 : Blk X12 p12 zz 27 := by rw [hX12, hp12]; exact Blk.new _ _ _
            have L12 : y1.heap.size ≤ p12 := by rw [hp12]; exact S0.size
            rw [← hX12, ← hp12]
            clear hX12 hp12
            refine hK _ _ (Till.mk' (S0.trans D12 (by simp)) trivial) ?_
            clear hK K
            try simp only [List.setIfInBounds_toArray, List.set_cons_succ, List.set_cons_zero]
            refine reg_one 12 5 #[true, true, true, true, true, true, true, true, true, true, true, true, true, false, false, false, true, false, false] (by kernel_rfl) rfl (by rfl) (by kernel_rfl) (fun K hK => ?_)
            go_simp
            refine (IH.out X12 (HV.out.2.2.2.1.turns (S0.trans D12 (by simp)) HV.out.2.2.2.2.1 (by simp)) (Nat.le_trans HV.out.2.2.2.2.1 (S0.trans D12 (by simp)).size)).mono ?_
            rintro e X8 ⟨x, is, hled, rfl, D8⟩
            refine hK _ _ (Till.mk' ((S0.trans D12 (by simp)).trans D8 (by simp)) trivial) ?_
            clear hK K
            try simp only [List.setIfInBounds_toArray, List.set_cons_succ, List.set_cons_zero]
            refine reg_take 13 53 4 #[true, true, true, true, true, true, true, true, true, true, true, true, true, true, false, false, true, false, false] (by rfl) (v := ?_) rfl rfl (by kernel_rfl) (by kernel_rfl) (by kernel_rfl) (by kernel_rfl) (fun _ _ _ h => h) (by rfl) ?_ (Till.mk' ((S0.trans D12 (by simp)).trans D8 (by simp)) trivial) ?_
            rotate_left
            · intro W hS; go_simp; all_goals with_reducible rfl
            try simp only [List.setIfInBounds_toArray, List.set_cons_succ, List.set_cons_zero]
            refine reg_take 14 67 3 #[true, true, true, true, true, true, true, true, true, true, true, true, true, true, true, false, true, false, false] (by rfl) (v := ?_) rfl rfl (by kernel_rfl) (by kernel_rfl) (by kernel_rfl) (by kernel_rfl) (fun _ _ _ h => h) (by rfl) ?_ (Till.mk' ((S0.trans D12 (by simp)).trans D8 (by simp)) trivial) ?_
            rotate_left
            · intro W hS; go_simp; all_goals with_reducible rfl
            try simp only [List.setIfInBounds_toArray, List.set_cons_succ, List.set_cons_zero]
            refine reg_take 15 68 2 #[true, true, true, true, true, true, true, true, true, true, true, true, true, true, true, true, true, false, false] (by rfl) (v := ?_) rfl rfl (by kernel_rfl) (by kernel_rfl) (by kernel_rfl) (by kernel_rfl) (fun _ _ _ h => h) (by rfl) ?_ (Till.mk' ((S0.trans D12 (by simp)).trans D8 (by simp)) trivial) ?_
            rotate_left
            · intro W hS; go_simp; all_goals with_reducible rfl
            try simp only [List.setIfInBounds_toArray, List.set_cons_succ, List.set_cons_zero]
            refine reg_one 17 1 #[true, true, true, true, true, true, true, true, true, true, true, true, true, true, true, true, true, true, false] (by kernel_rfl) rfl (by rfl) (by kernel_rfl) (fun K hK => ?_)
            have hx32 := hled.1
            have T13 := ((S0.trans D12 (by simp)).trans D8 (by simp))
            have K13 := K12.turns ((Turns.refl [] X12).trans D8 (by simp)) (by simp)
            refine wp_store_blk 27 _ _ (by rfl) p12 (by rfl) (bvs x) zz 27 (by rfl) K13 (by rw [HZL.out, bvs_length, hx32]) (by rw [size_hash, bvs_length, hx32]) (bvs_one _) (fun X13 hb13 ht13 => ?_)
            have S13 : Turns [] y1 X13 := T13.trans ht13 (by intro q hq; simp at hq; subst hq; exact .inr L12)
            refine hK _ _ (Till.mk' S13 trivial) ?_
            clear hK K
            try simp only [List.setIfInBounds_toArray, List.set_cons_succ, List.set_cons_zero]
            refine reg_take 18 15 0 #[true, true, true, true, true, true, true, true, true, true, true, true, true, true, true, true, true, true, true] (by rfl) (v := ?_) rfl rfl (by kernel_rfl) (by kernel_rfl) (by kernel_rfl) (by kernel_rfl) (fun _ _ _ h => h) (by rfl) ?_ (Till.mk' S13 trivial) ?_
            rotate_left
            · intro W hS; go_simp; all_goals with_reducible rfl
            try simp only [List.setIfInBounds_toArray, List.set_cons_succ, List.set_cons_zero]
            refine reg_done (by kernel_rfl) ?_ _
            have hx32 := hled.1
            have HN := Lib.hid (And.intro hb13 (And.intro (HV.out.2.1.turns S13 (by simp)) (And.intro (HV.out.1.turns S13 (by simp)) (And.intro (HV.out.2.2.2.2.2.1.trans S13 (by simp)) (HLP.out x is hled)))))
            have hsx := Lib.hid (show (Try.prog.info? 27).map (·.size) = some (bvs x).length by rw [size_hash, bvs_length, hx32])
            have HX32 := Lib.hid hx32
            clear hb13 ht13 S13 hled hx32 T13 K13 L12 K12
            go_wp2_with (first
              | (refine wpList_load_blk (o := ⟨some 70, _, _, _, _, _⟩) rfl 27 (.tmp 14) rfl p12 (by kernel_rfl) (bvs x) _ _ HN.out.1 Try.underlying27 rfl hsx.out ?_)
              | (refine wpList_load_blk (o := ⟨some 69, _, _, _, _, _⟩) rfl 27 (.tmp 11) rfl p11 (by kernel_rfl) (bvs l) _ _ HN.out.2.1 Try.underlying27 rfl hsl.out ?_)
              | fail)
            refine (Two_any l x HR.out.2.2.2.2.1 HX32.out _).mono ?_
            rintro e X14 ⟨rfl, t14⟩
            have h8 := HN.out.2.2.1.turns t14 (by simp)
            have H8 := Lib.hid h8
            have HT14 := Lib.hid t14
            have h2l := twoH_len l x
            have Q_l := Lib.hid (show zz.length = (bvs (twoH l x)).length by rw [HZL.out, bvs_length, h2l])
            have Q_sz := Lib.hid (show (Try.prog.info? 27).map (·.size) = some (bvs (twoH l x)).length by rw [size_hash, bvs_length, h2l])
            clear h8 t14 h2l
            go_wp2_with (first
              | (refine wpList_store_blk rfl 27 (.tmp 8) (.tmp 71) rfl p8 (by kernel_rfl) (bvs (twoH l x)) zz 27 (by kernel_rfl) H8.out Q_l.out Q_sz.out (bvs_one _) (fun w9 hb9 ht9 hs9 => ?_); have HQ9 := Lib.hid (And.intro hb9 ht9); clear hb9 ht9 hs9)
              | fail)
            refine bodyPost_ret (results_two rfl _ _ p8 _ _ _ (.bool is) (by kernel_rfl) (by kernel_rfl) HQ9.out.1 Try.underlying27 rfl (by rw [List.size_toArray]; exact Q_sz.out)) rfl ?_
            exact ⟨twoH l x, is, HN.out.2.2.2.2, rfl, (HN.out.2.2.2.1.trans HT14.out (by simp)).trans HQ9.out.2 (by intro q hq; simp at hq; subst hq; exact .inr HV.out.2.2.2.2.2.2.2)⟩
theorem led_any : ∀ N, LedSpec N
  | 0 => fun h i n m p _ _ h1 h2 => by omega
  | N + 1 => led_step N (led_any N)
end Go.Proofs.Ytnjnealphbcamaa
