/- The law RowSizes: a row is as long as its values say. -/
import Derived.Test.YtfehhiegnhplhaaVGe
import Derived.Test.YtfehhiegnhplhaaVArg
namespace Go.Proofs.Ytfehhiegnhplhaa
open Go.RowKit
set_option linter.unusedVariables false
set_option maxRecDepth 10000
set_option linter.unusedSimpArgs false
set_option linter.unnecessarySimpa false

def szs (l : List Val) : Nat := 1 + (valsBytes l).length
theorem szs_row (l : List Val) : (rowBytes l).length = szs l := by unfold rowBytes szs; rw [List.length_cons]; omega
theorem szs_step (l : List Val) (k : Nat) (hk : k < l.length) (h : vcheck l[k] = 0) : ((szs (l.take (k + 1)) : Nat) : Int) = ((szs (l.take k) : Nat) : Int) + (if l[k].kind = 0 then 1 else if l[k].kind = 1 then 2 else if l[k].kind = 2 then 9 else 3) + (l[k].s.size : Int) := by
  unfold szs
  rw [valsBytes_step l k hk, List.length_append]
  have := valBytes_size l[k] h
  omega
theorem fewVs_good {l : List Val} (hf : ∀ x ∈ l, x.fits) : ∀ c ∈ l.map gval, vcheck c = 0 ∧ c.fits := by
  intro c hc
  obtain ⟨x, hx, rfl⟩ := List.mem_map.1 hc
  exact ⟨gval_ok x, gval_fits x (hf x hx)⟩

theorem wrap_add2 (m s : Nat) (v : Int) (hv : 0 ≤ v ∧ v ≤ 9) (hm : m ≤ 1000000) (hs : s ≤ 60) : Value.int .i64 (IntKind.i64.wrap (IntKind.i64.wrap ((m : Int) + v) + (s : Int))) = .int .i64 ((m : Int) + v + (s : Int)) := by
  rw [IntKind.wrap_i64, IntKind.wrap_i64]
  congr 1
  omega
set_option maxRecDepth 100000 in
set_option maxHeartbeats 8000000 in
theorem RowSizes_walk (v : Value) (l : List Val) (w : World) (h : ValsArg w v l) :
    Calls Try.prog 3 #[v] w fun e w' => e = .returned (.bool true) ∧ Below w.heap.size w w' := by
  obtain ⟨hs, hf⟩ := h
  obtain ⟨A, c, rfl⟩ : ∃ A c, v = .slice A l.length c := by obtain ⟨_, A, c, hv, _⟩ := hs; exact ⟨A, c, hv⟩
  have KN := Lib.hid (known5_any w)
  have HS := Lib.hid hs
  clear hs
  go_enter Try.func3, Try.ntmps3
  go_wp2_with fail
  refine KN.out.mono ?_
  rintro e w1 ⟨rfl, t1⟩
  have FW := Lib.hid (FewVs_any l A l.length c w.heap.size w1 hf (t1.slice HS.out (Nat.le_refl _) (by simp)) t1.size)
  have HT := Lib.hid t1
  clear t1 KN
  go_wp2_with fail
  refine FW.out.mono ?_
  rintro e w2 ⟨rfl, t2⟩
  have HT := Lib.hid (HT.out.trans t2 (by simp))
  clear t2 FW
  cases hfw : fewVs l
  · go_wp2_with fail
    go_ret
    exact ⟨rfl, HT.out.below (Nat.le_refl _) (by simp)⟩
  have h12 := fewVs_len hfw
  have GD := Lib.hid (Good5_any l A l.length c w.heap.size w2 hf (HT.out.slice HS.out (Nat.le_refl _) (by simp)) HT.out.size (by omega))
  go_wp2_with fail
  refine GD.out.mono ?_
  rintro e w3 ⟨A3, c3, rfl, o3, t3⟩
  have HT := Lib.hid (HT.out.trans t3 (by simp))
  have hgood := Lib.hid (fewVs_good hf)
  have hlen : (l.map gval).length = l.length := by simp
  generalize l.map gval = G at o3 hgood hlen
  have HG := Lib.hid (Sl.of_own o3)
  clear o3 t3 GD hfw HS hf
  rw [← hlen] at h12 ⊢
  rw [← hlen] at HG
  clear hlen
  have HZ := Lib.hid (show szs (G.take 0) = 1 from rfl)
  go_wp2_with fail
  go_loopw [4, 5] (fun n i wr => ∃ k : Nat, k ≤ G.length ∧ i = .int .i64 k ∧ n = .int .i64 (szs (G.take k) : Nat) ∧ Turns [] w3 wr) (fun _ i _ => G.length - (intOf i).toNat)
  case atStart => exact ⟨0, by omega, rfl, by rw [HZ.out]; rfl, Turns.refl _ _⟩
  case round =>
    obtain ⟨k, hk, rfl, rfl, tx⟩ := hrel
    by_cases hlt : k < G.length
    · have hki : (k : Int) < (G.length : Int) := by omega
      obtain ⟨b, off, rfl, rg⟩ := val_range HG.out k hlt
      have hg := hgood.out _ (List.getElem_mem hlt)
      have hst := szs_step G k hlt hg.1
      have hkd := (vcheck_ok hg.1).1
      have h60 := (vcheck_ok hg.1).2.2.2.2
      obtain ⟨⟨kd, nn, ss⟩, hcc⟩ : ∃ cc, cc = G[k] := ⟨_, rfl⟩
      rw [← hcc] at rg hst hkd h60
      have r0 : wr.cell? ⟨b, off + k * 3, none⟩ = some (.int .i64 kd) := cellV tx (rg 0 _ rfl)
      have r2 : wr.cell? ⟨b, off + k * 3 + 2, none⟩ = some (.string ss) := cellV tx (rg 2 _ rfl)
      have hszb : szs (G.take k) ≤ 1000000 := by
        have := valsBytes_len (G.take k)
        rw [List.length_take] at this
        unfold szs; omega
      replace hst := Lib.hid hst
      simp only at hkd h60
      have HX := Lib.hid tx
      clear hcc rg hg tx
      generalize szs (G.take k) = m at hst hszb
      have hc : kd = 0 ∨ kd = 1 ∨ kd = 2 ∨ kd = 3 := by omega
      go_upto_region 10 with fail
      have hS0 : Turns [] wr wr.drew := (Turns.refl _ _).drew
      rcases hc with rfl | rfl | rfl | rfl
      · have hst2 := Lib.hid (show ((szs (G.take (k + 1)) : Nat) : Int) = (m : Int) + 1 + (ss.size : Int) from hst.out)
        refine reg_begin (fun W => Turns [] wr W) (fun _ => True) 18 18 #[false, false, false, false, false, false, false, false, false, false, false, false, false, false, false, false, false, false] (by kernel_rfl) (by kernel_rfl) (by kernel_rfl) ?_
        refine reg_take 0 20 17 #[true, false, false, false, false, false, false, false, false, false, false, false, false, false, false, false, false, false] (by rfl) (v := ?_) rfl rfl (by kernel_rfl) (by kernel_rfl) (by kernel_rfl) (by kernel_rfl) (fun _ _ _ h => h) (by rfl) ?_ (Till.mk' hS0 trivial) ?_
        rotate_left
        · intro W hS; go_simp; all_goals with_reducible rfl
        try simp only [List.setIfInBounds_toArray, List.set_cons_succ, List.set_cons_zero]
        refine reg_take 2 22 16 #[true, false, true, false, false, false, false, false, false, false, false, false, false, false, false, false, false, false] (by rfl) (v := ?_) rfl rfl (by kernel_rfl) (by kernel_rfl) (by kernel_rfl) (by kernel_rfl) (fun _ _ _ h => h) (by rfl) ?_ (Till.mk' hS0 trivial) ?_
        rotate_left
        · intro W hS; go_simp; all_goals with_reducible rfl
        try simp only [List.setIfInBounds_toArray, List.set_cons_succ, List.set_cons_zero]
        refine reg_take 3 23 15 #[true, false, true, true, false, false, false, false, false, false, false, false, false, false, false, false, false, false] (by rfl) (v := ?_) rfl rfl (by kernel_rfl) (by kernel_rfl) (by kernel_rfl) (by kernel_rfl) (fun _ _ _ h => h) (by rfl) ?_ (Till.mk' hS0 trivial) ?_
        rotate_left
        · intro W hS; go_simp; all_goals with_reducible rfl
        try simp only [List.setIfInBounds_toArray, List.set_cons_succ, List.set_cons_zero]
        refine reg_take 4 24 14 #[true, false, true, true, true, false, false, false, false, false, false, false, false, false, false, false, false, false] (by rfl) (v := ?_) rfl rfl (by kernel_rfl) (by kernel_rfl) (by kernel_rfl) (by kernel_rfl) (fun _ _ _ h => h) (by rfl) ?_ (Till.mk' hS0 trivial) ?_
        rotate_left
        · intro W hS; go_simp; all_goals with_reducible rfl
        try simp only [List.setIfInBounds_toArray, List.set_cons_succ, List.set_cons_zero]
        refine reg_take 5 25 13 #[true, false, true, true, true, true, false, false, false, false, false, false, false, false, false, false, false, false] (by rfl) (v := ?_) rfl rfl (by kernel_rfl) (by kernel_rfl) (by kernel_rfl) (by kernel_rfl) (fun _ _ _ h => h) (by rfl) ?_ (Till.mk' hS0 trivial) ?_
        rotate_left
        · intro W hS; go_simp; all_goals with_reducible rfl
        try simp only [List.setIfInBounds_toArray, List.set_cons_succ, List.set_cons_zero]
        refine reg_take 6 26 12 #[true, false, true, true, true, true, true, false, false, false, false, false, false, false, false, false, false, false] (by rfl) (v := ?_) rfl rfl (by kernel_rfl) (by kernel_rfl) (by kernel_rfl) (by kernel_rfl) (fun _ _ _ h => h) (by rfl) ?_ (Till.mk' hS0 trivial) ?_
        rotate_left
        · intro W hS; have c2 := cellV hS r0; go_simp; all_goals with_reducible rfl
        try simp only [List.setIfInBounds_toArray, List.set_cons_succ, List.set_cons_zero]
        refine reg_take 10 30 11 #[true, false, true, true, true, true, true, false, false, false, true, false, false, false, false, false, false, false] (by rfl) (v := ?_) rfl rfl (by kernel_rfl) (by kernel_rfl) (by kernel_rfl) (by kernel_rfl) (fun _ _ _ h => h) (by rfl) ?_ (Till.mk' hS0 trivial) ?_
        rotate_left
        · intro W hS; go_simp; all_goals with_reducible rfl
        try simp only [List.setIfInBounds_toArray, List.set_cons_succ, List.set_cons_zero]
        refine reg_take 11 31 10 #[true, false, true, true, true, true, true, false, false, false, true, true, false, false, false, false, false, false] (by rfl) (v := ?_) rfl rfl (by kernel_rfl) (by kernel_rfl) (by kernel_rfl) (by kernel_rfl) (fun _ _ _ h => h) (by rfl) ?_ (Till.mk' hS0 trivial) ?_
        rotate_left
        · intro W hS; go_simp; all_goals with_reducible rfl
        try simp only [List.setIfInBounds_toArray, List.set_cons_succ, List.set_cons_zero]
        refine reg_take 12 32 9 #[true, false, true, true, true, true, true, false, false, false, true, true, true, false, false, false, false, false] (by rfl) (v := ?_) rfl rfl (by kernel_rfl) (by kernel_rfl) (by kernel_rfl) (by kernel_rfl) (fun _ _ _ h => h) (by rfl) ?_ (Till.mk' hS0 trivial) ?_
        rotate_left
        · intro W hS; go_simp; all_goals with_reducible rfl
        try simp only [List.setIfInBounds_toArray, List.set_cons_succ, List.set_cons_zero]
        refine reg_take 13 33 8 #[true, false, true, true, true, true, true, false, false, false, true, true, true, true, false, false, false, false] (by rfl) (v := ?_) rfl rfl (by kernel_rfl) (by kernel_rfl) (by kernel_rfl) (by kernel_rfl) (fun _ _ _ h => h) (by rfl) ?_ (Till.mk' hS0 trivial) ?_
        rotate_left
        · intro W hS; go_simp; all_goals with_reducible rfl
        try simp only [List.setIfInBounds_toArray, List.set_cons_succ, List.set_cons_zero]
        refine reg_take 14 34 7 #[true, false, true, true, true, true, true, false, false, false, true, true, true, true, true, false, false, false] (by rfl) (v := ?_) rfl rfl (by kernel_rfl) (by kernel_rfl) (by kernel_rfl) (by kernel_rfl) (fun _ _ _ h => h) (by rfl) ?_ (Till.mk' hS0 trivial) ?_
        rotate_left
        · intro W hS; have c2 := cellV hS r2; go_simp; all_goals with_reducible rfl
        try simp only [List.setIfInBounds_toArray, List.set_cons_succ, List.set_cons_zero]
        refine reg_take 15 35 6 #[true, false, true, true, true, true, true, false, false, false, true, true, true, true, true, true, false, false] (by rfl) (v := ?_) rfl rfl (by kernel_rfl) (by kernel_rfl) (by kernel_rfl) (by kernel_rfl) (fun _ _ _ h => h) (by rfl) ?_ (Till.mk' hS0 trivial) ?_
        rotate_left
        · intro W hS; go_simp; all_goals with_reducible rfl
        try simp only [List.setIfInBounds_toArray, List.set_cons_succ, List.set_cons_zero]
        refine reg_one 1 5 #[true, true, true, true, true, true, true, false, false, false, true, true, true, true, true, true, false, false] (by kernel_rfl) rfl (by rfl) (by kernel_rfl) (fun K hK => ?_)
        go_simp
        refine hK _ _ (Till.mk' (hS0.alloc _) trivial) ?_
        clear hK K
        try simp only [List.setIfInBounds_toArray, List.set_cons_succ, List.set_cons_zero]
        refine reg_take 7 27 4 #[true, true, true, true, true, true, true, true, false, false, true, true, true, true, true, true, false, false] (by rfl) (v := ?_) rfl rfl (by kernel_rfl) (by kernel_rfl) (by kernel_rfl) (by kernel_rfl) (fun _ _ _ h => h) (by rfl) ?_ (Till.mk' (hS0.alloc _) trivial) ?_
        rotate_left
        · intro W hS; go_simp; all_goals with_reducible rfl
        try simp only [List.setIfInBounds_toArray, List.set_cons_succ, List.set_cons_zero]
        refine reg_one 8 3 #[true, true, true, true, true, true, true, true, true, false, true, true, true, true, true, true, false, false] (by kernel_rfl) rfl (by rfl) (by kernel_rfl) (fun K hK => ?_)
        go_simp
        refine hK _ _ (Till.mk' (hS0.alloc _) trivial) ?_
        clear hK K
        try simp only [List.setIfInBounds_toArray, List.set_cons_succ, List.set_cons_zero]
        refine reg_take 9 29 2 #[true, true, true, true, true, true, true, true, true, true, true, true, true, true, true, true, false, false] (by rfl) (v := ?_) rfl rfl (by kernel_rfl) (by kernel_rfl) (by kernel_rfl) (by kernel_rfl) (fun _ _ _ h => h) (by rfl) ?_ (Till.mk' (hS0.alloc _) trivial) ?_
        rotate_left
        · intro W hS; go_simp; all_goals with_reducible rfl
        try simp only [List.setIfInBounds_toArray, List.set_cons_succ, List.set_cons_zero]
        refine reg_take 16 36 1 #[true, true, true, true, true, true, true, true, true, true, true, true, true, true, true, true, true, false] (by rfl) (v := ?_) rfl rfl (by kernel_rfl) (by kernel_rfl) (by kernel_rfl) (by kernel_rfl) (fun _ _ _ h => h) (by rfl) ?_ (Till.mk' (hS0.alloc _) trivial) ?_
        rotate_left
        · intro W hS; go_simp; all_goals with_reducible rfl
        try simp only [List.setIfInBounds_toArray, List.set_cons_succ, List.set_cons_zero]
        refine reg_take 17 4 0 #[true, true, true, true, true, true, true, true, true, true, true, true, true, true, true, true, true, true] (by rfl) (v := ?_) rfl rfl (by kernel_rfl) (by kernel_rfl) (by kernel_rfl) (by kernel_rfl) (fun _ _ _ h => h) (by rfl) ?_ (Till.mk' (hS0.alloc _) trivial) ?_
        rotate_left
        · intro W hS; go_simp; all_goals with_reducible rfl
        try simp only [List.setIfInBounds_toArray, List.set_cons_succ, List.set_cons_zero]
        refine reg_done (by kernel_rfl) ?_ _
        go_wp2_with fail
        go_roundw
        case rel => exact ⟨k + 1, by omega, by go_num, by rw [hst2.out]; exact wrap_add2 m _ 1 ⟨by decide, by decide⟩ hszb h60, HX.out.trans (hS0.alloc _) (by simp)⟩
        case measure => (simp [intOf] <;> omega)
      · have hst2 := Lib.hid (show ((szs (G.take (k + 1)) : Nat) : Int) = (m : Int) + 2 + (ss.size : Int) from hst.out)
        refine reg_begin (fun W => Turns [] wr W) (fun _ => True) 18 18 #[false, false, false, false, false, false, false, false, false, false, false, false, false, false, false, false, false, false] (by kernel_rfl) (by kernel_rfl) (by kernel_rfl) ?_
        refine reg_take 0 20 17 #[true, false, false, false, false, false, false, false, false, false, false, false, false, false, false, false, false, false] (by rfl) (v := ?_) rfl rfl (by kernel_rfl) (by kernel_rfl) (by kernel_rfl) (by kernel_rfl) (fun _ _ _ h => h) (by rfl) ?_ (Till.mk' hS0 trivial) ?_
        rotate_left
        · intro W hS; go_simp; all_goals with_reducible rfl
        try simp only [List.setIfInBounds_toArray, List.set_cons_succ, List.set_cons_zero]
        refine reg_take 2 22 16 #[true, false, true, false, false, false, false, false, false, false, false, false, false, false, false, false, false, false] (by rfl) (v := ?_) rfl rfl (by kernel_rfl) (by kernel_rfl) (by kernel_rfl) (by kernel_rfl) (fun _ _ _ h => h) (by rfl) ?_ (Till.mk' hS0 trivial) ?_
        rotate_left
        · intro W hS; go_simp; all_goals with_reducible rfl
        try simp only [List.setIfInBounds_toArray, List.set_cons_succ, List.set_cons_zero]
        refine reg_take 3 23 15 #[true, false, true, true, false, false, false, false, false, false, false, false, false, false, false, false, false, false] (by rfl) (v := ?_) rfl rfl (by kernel_rfl) (by kernel_rfl) (by kernel_rfl) (by kernel_rfl) (fun _ _ _ h => h) (by rfl) ?_ (Till.mk' hS0 trivial) ?_
        rotate_left
        · intro W hS; go_simp; all_goals with_reducible rfl
        try simp only [List.setIfInBounds_toArray, List.set_cons_succ, List.set_cons_zero]
        refine reg_take 4 24 14 #[true, false, true, true, true, false, false, false, false, false, false, false, false, false, false, false, false, false] (by rfl) (v := ?_) rfl rfl (by kernel_rfl) (by kernel_rfl) (by kernel_rfl) (by kernel_rfl) (fun _ _ _ h => h) (by rfl) ?_ (Till.mk' hS0 trivial) ?_
        rotate_left
        · intro W hS; go_simp; all_goals with_reducible rfl
        try simp only [List.setIfInBounds_toArray, List.set_cons_succ, List.set_cons_zero]
        refine reg_take 5 25 13 #[true, false, true, true, true, true, false, false, false, false, false, false, false, false, false, false, false, false] (by rfl) (v := ?_) rfl rfl (by kernel_rfl) (by kernel_rfl) (by kernel_rfl) (by kernel_rfl) (fun _ _ _ h => h) (by rfl) ?_ (Till.mk' hS0 trivial) ?_
        rotate_left
        · intro W hS; go_simp; all_goals with_reducible rfl
        try simp only [List.setIfInBounds_toArray, List.set_cons_succ, List.set_cons_zero]
        refine reg_take 6 26 12 #[true, false, true, true, true, true, true, false, false, false, false, false, false, false, false, false, false, false] (by rfl) (v := ?_) rfl rfl (by kernel_rfl) (by kernel_rfl) (by kernel_rfl) (by kernel_rfl) (fun _ _ _ h => h) (by rfl) ?_ (Till.mk' hS0 trivial) ?_
        rotate_left
        · intro W hS; have c2 := cellV hS r0; go_simp; all_goals with_reducible rfl
        try simp only [List.setIfInBounds_toArray, List.set_cons_succ, List.set_cons_zero]
        refine reg_take 10 30 11 #[true, false, true, true, true, true, true, false, false, false, true, false, false, false, false, false, false, false] (by rfl) (v := ?_) rfl rfl (by kernel_rfl) (by kernel_rfl) (by kernel_rfl) (by kernel_rfl) (fun _ _ _ h => h) (by rfl) ?_ (Till.mk' hS0 trivial) ?_
        rotate_left
        · intro W hS; go_simp; all_goals with_reducible rfl
        try simp only [List.setIfInBounds_toArray, List.set_cons_succ, List.set_cons_zero]
        refine reg_take 11 31 10 #[true, false, true, true, true, true, true, false, false, false, true, true, false, false, false, false, false, false] (by rfl) (v := ?_) rfl rfl (by kernel_rfl) (by kernel_rfl) (by kernel_rfl) (by kernel_rfl) (fun _ _ _ h => h) (by rfl) ?_ (Till.mk' hS0 trivial) ?_
        rotate_left
        · intro W hS; go_simp; all_goals with_reducible rfl
        try simp only [List.setIfInBounds_toArray, List.set_cons_succ, List.set_cons_zero]
        refine reg_take 12 32 9 #[true, false, true, true, true, true, true, false, false, false, true, true, true, false, false, false, false, false] (by rfl) (v := ?_) rfl rfl (by kernel_rfl) (by kernel_rfl) (by kernel_rfl) (by kernel_rfl) (fun _ _ _ h => h) (by rfl) ?_ (Till.mk' hS0 trivial) ?_
        rotate_left
        · intro W hS; go_simp; all_goals with_reducible rfl
        try simp only [List.setIfInBounds_toArray, List.set_cons_succ, List.set_cons_zero]
        refine reg_take 13 33 8 #[true, false, true, true, true, true, true, false, false, false, true, true, true, true, false, false, false, false] (by rfl) (v := ?_) rfl rfl (by kernel_rfl) (by kernel_rfl) (by kernel_rfl) (by kernel_rfl) (fun _ _ _ h => h) (by rfl) ?_ (Till.mk' hS0 trivial) ?_
        rotate_left
        · intro W hS; go_simp; all_goals with_reducible rfl
        try simp only [List.setIfInBounds_toArray, List.set_cons_succ, List.set_cons_zero]
        refine reg_take 14 34 7 #[true, false, true, true, true, true, true, false, false, false, true, true, true, true, true, false, false, false] (by rfl) (v := ?_) rfl rfl (by kernel_rfl) (by kernel_rfl) (by kernel_rfl) (by kernel_rfl) (fun _ _ _ h => h) (by rfl) ?_ (Till.mk' hS0 trivial) ?_
        rotate_left
        · intro W hS; have c2 := cellV hS r2; go_simp; all_goals with_reducible rfl
        try simp only [List.setIfInBounds_toArray, List.set_cons_succ, List.set_cons_zero]
        refine reg_take 15 35 6 #[true, false, true, true, true, true, true, false, false, false, true, true, true, true, true, true, false, false] (by rfl) (v := ?_) rfl rfl (by kernel_rfl) (by kernel_rfl) (by kernel_rfl) (by kernel_rfl) (fun _ _ _ h => h) (by rfl) ?_ (Till.mk' hS0 trivial) ?_
        rotate_left
        · intro W hS; go_simp; all_goals with_reducible rfl
        try simp only [List.setIfInBounds_toArray, List.set_cons_succ, List.set_cons_zero]
        refine reg_one 1 5 #[true, true, true, true, true, true, true, false, false, false, true, true, true, true, true, true, false, false] (by kernel_rfl) rfl (by rfl) (by kernel_rfl) (fun K hK => ?_)
        go_simp
        refine hK _ _ (Till.mk' (hS0.alloc _) trivial) ?_
        clear hK K
        try simp only [List.setIfInBounds_toArray, List.set_cons_succ, List.set_cons_zero]
        refine reg_take 7 27 4 #[true, true, true, true, true, true, true, true, false, false, true, true, true, true, true, true, false, false] (by rfl) (v := ?_) rfl rfl (by kernel_rfl) (by kernel_rfl) (by kernel_rfl) (by kernel_rfl) (fun _ _ _ h => h) (by rfl) ?_ (Till.mk' (hS0.alloc _) trivial) ?_
        rotate_left
        · intro W hS; go_simp; all_goals with_reducible rfl
        try simp only [List.setIfInBounds_toArray, List.set_cons_succ, List.set_cons_zero]
        refine reg_one 8 3 #[true, true, true, true, true, true, true, true, true, false, true, true, true, true, true, true, false, false] (by kernel_rfl) rfl (by rfl) (by kernel_rfl) (fun K hK => ?_)
        go_simp
        refine hK _ _ (Till.mk' (hS0.alloc _) trivial) ?_
        clear hK K
        try simp only [List.setIfInBounds_toArray, List.set_cons_succ, List.set_cons_zero]
        refine reg_take 9 29 2 #[true, true, true, true, true, true, true, true, true, true, true, true, true, true, true, true, false, false] (by rfl) (v := ?_) rfl rfl (by kernel_rfl) (by kernel_rfl) (by kernel_rfl) (by kernel_rfl) (fun _ _ _ h => h) (by rfl) ?_ (Till.mk' (hS0.alloc _) trivial) ?_
        rotate_left
        · intro W hS; go_simp; all_goals with_reducible rfl
        try simp only [List.setIfInBounds_toArray, List.set_cons_succ, List.set_cons_zero]
        refine reg_take 16 36 1 #[true, true, true, true, true, true, true, true, true, true, true, true, true, true, true, true, true, false] (by rfl) (v := ?_) rfl rfl (by kernel_rfl) (by kernel_rfl) (by kernel_rfl) (by kernel_rfl) (fun _ _ _ h => h) (by rfl) ?_ (Till.mk' (hS0.alloc _) trivial) ?_
        rotate_left
        · intro W hS; go_simp; all_goals with_reducible rfl
        try simp only [List.setIfInBounds_toArray, List.set_cons_succ, List.set_cons_zero]
        refine reg_take 17 4 0 #[true, true, true, true, true, true, true, true, true, true, true, true, true, true, true, true, true, true] (by rfl) (v := ?_) rfl rfl (by kernel_rfl) (by kernel_rfl) (by kernel_rfl) (by kernel_rfl) (fun _ _ _ h => h) (by rfl) ?_ (Till.mk' (hS0.alloc _) trivial) ?_
        rotate_left
        · intro W hS; go_simp; all_goals with_reducible rfl
        try simp only [List.setIfInBounds_toArray, List.set_cons_succ, List.set_cons_zero]
        refine reg_done (by kernel_rfl) ?_ _
        go_wp2_with fail
        go_roundw
        case rel => exact ⟨k + 1, by omega, by go_num, by rw [hst2.out]; exact wrap_add2 m _ 2 ⟨by decide, by decide⟩ hszb h60, HX.out.trans (hS0.alloc _) (by simp)⟩
        case measure => (simp [intOf] <;> omega)
      · have hst2 := Lib.hid (show ((szs (G.take (k + 1)) : Nat) : Int) = (m : Int) + 9 + (ss.size : Int) from hst.out)
        refine reg_begin (fun W => Turns [] wr W) (fun _ => True) 18 18 #[false, false, false, false, false, false, false, false, false, false, false, false, false, false, false, false, false, false] (by kernel_rfl) (by kernel_rfl) (by kernel_rfl) ?_
        refine reg_take 0 20 17 #[true, false, false, false, false, false, false, false, false, false, false, false, false, false, false, false, false, false] (by rfl) (v := ?_) rfl rfl (by kernel_rfl) (by kernel_rfl) (by kernel_rfl) (by kernel_rfl) (fun _ _ _ h => h) (by rfl) ?_ (Till.mk' hS0 trivial) ?_
        rotate_left
        · intro W hS; go_simp; all_goals with_reducible rfl
        try simp only [List.setIfInBounds_toArray, List.set_cons_succ, List.set_cons_zero]
        refine reg_take 2 22 16 #[true, false, true, false, false, false, false, false, false, false, false, false, false, false, false, false, false, false] (by rfl) (v := ?_) rfl rfl (by kernel_rfl) (by kernel_rfl) (by kernel_rfl) (by kernel_rfl) (fun _ _ _ h => h) (by rfl) ?_ (Till.mk' hS0 trivial) ?_
        rotate_left
        · intro W hS; go_simp; all_goals with_reducible rfl
        try simp only [List.setIfInBounds_toArray, List.set_cons_succ, List.set_cons_zero]
        refine reg_take 3 23 15 #[true, false, true, true, false, false, false, false, false, false, false, false, false, false, false, false, false, false] (by rfl) (v := ?_) rfl rfl (by kernel_rfl) (by kernel_rfl) (by kernel_rfl) (by kernel_rfl) (fun _ _ _ h => h) (by rfl) ?_ (Till.mk' hS0 trivial) ?_
        rotate_left
        · intro W hS; go_simp; all_goals with_reducible rfl
        try simp only [List.setIfInBounds_toArray, List.set_cons_succ, List.set_cons_zero]
        refine reg_take 4 24 14 #[true, false, true, true, true, false, false, false, false, false, false, false, false, false, false, false, false, false] (by rfl) (v := ?_) rfl rfl (by kernel_rfl) (by kernel_rfl) (by kernel_rfl) (by kernel_rfl) (fun _ _ _ h => h) (by rfl) ?_ (Till.mk' hS0 trivial) ?_
        rotate_left
        · intro W hS; go_simp; all_goals with_reducible rfl
        try simp only [List.setIfInBounds_toArray, List.set_cons_succ, List.set_cons_zero]
        refine reg_take 5 25 13 #[true, false, true, true, true, true, false, false, false, false, false, false, false, false, false, false, false, false] (by rfl) (v := ?_) rfl rfl (by kernel_rfl) (by kernel_rfl) (by kernel_rfl) (by kernel_rfl) (fun _ _ _ h => h) (by rfl) ?_ (Till.mk' hS0 trivial) ?_
        rotate_left
        · intro W hS; go_simp; all_goals with_reducible rfl
        try simp only [List.setIfInBounds_toArray, List.set_cons_succ, List.set_cons_zero]
        refine reg_take 6 26 12 #[true, false, true, true, true, true, true, false, false, false, false, false, false, false, false, false, false, false] (by rfl) (v := ?_) rfl rfl (by kernel_rfl) (by kernel_rfl) (by kernel_rfl) (by kernel_rfl) (fun _ _ _ h => h) (by rfl) ?_ (Till.mk' hS0 trivial) ?_
        rotate_left
        · intro W hS; have c2 := cellV hS r0; go_simp; all_goals with_reducible rfl
        try simp only [List.setIfInBounds_toArray, List.set_cons_succ, List.set_cons_zero]
        refine reg_take 10 30 11 #[true, false, true, true, true, true, true, false, false, false, true, false, false, false, false, false, false, false] (by rfl) (v := ?_) rfl rfl (by kernel_rfl) (by kernel_rfl) (by kernel_rfl) (by kernel_rfl) (fun _ _ _ h => h) (by rfl) ?_ (Till.mk' hS0 trivial) ?_
        rotate_left
        · intro W hS; go_simp; all_goals with_reducible rfl
        try simp only [List.setIfInBounds_toArray, List.set_cons_succ, List.set_cons_zero]
        refine reg_take 11 31 10 #[true, false, true, true, true, true, true, false, false, false, true, true, false, false, false, false, false, false] (by rfl) (v := ?_) rfl rfl (by kernel_rfl) (by kernel_rfl) (by kernel_rfl) (by kernel_rfl) (fun _ _ _ h => h) (by rfl) ?_ (Till.mk' hS0 trivial) ?_
        rotate_left
        · intro W hS; go_simp; all_goals with_reducible rfl
        try simp only [List.setIfInBounds_toArray, List.set_cons_succ, List.set_cons_zero]
        refine reg_take 12 32 9 #[true, false, true, true, true, true, true, false, false, false, true, true, true, false, false, false, false, false] (by rfl) (v := ?_) rfl rfl (by kernel_rfl) (by kernel_rfl) (by kernel_rfl) (by kernel_rfl) (fun _ _ _ h => h) (by rfl) ?_ (Till.mk' hS0 trivial) ?_
        rotate_left
        · intro W hS; go_simp; all_goals with_reducible rfl
        try simp only [List.setIfInBounds_toArray, List.set_cons_succ, List.set_cons_zero]
        refine reg_take 13 33 8 #[true, false, true, true, true, true, true, false, false, false, true, true, true, true, false, false, false, false] (by rfl) (v := ?_) rfl rfl (by kernel_rfl) (by kernel_rfl) (by kernel_rfl) (by kernel_rfl) (fun _ _ _ h => h) (by rfl) ?_ (Till.mk' hS0 trivial) ?_
        rotate_left
        · intro W hS; go_simp; all_goals with_reducible rfl
        try simp only [List.setIfInBounds_toArray, List.set_cons_succ, List.set_cons_zero]
        refine reg_take 14 34 7 #[true, false, true, true, true, true, true, false, false, false, true, true, true, true, true, false, false, false] (by rfl) (v := ?_) rfl rfl (by kernel_rfl) (by kernel_rfl) (by kernel_rfl) (by kernel_rfl) (fun _ _ _ h => h) (by rfl) ?_ (Till.mk' hS0 trivial) ?_
        rotate_left
        · intro W hS; have c2 := cellV hS r2; go_simp; all_goals with_reducible rfl
        try simp only [List.setIfInBounds_toArray, List.set_cons_succ, List.set_cons_zero]
        refine reg_take 15 35 6 #[true, false, true, true, true, true, true, false, false, false, true, true, true, true, true, true, false, false] (by rfl) (v := ?_) rfl rfl (by kernel_rfl) (by kernel_rfl) (by kernel_rfl) (by kernel_rfl) (fun _ _ _ h => h) (by rfl) ?_ (Till.mk' hS0 trivial) ?_
        rotate_left
        · intro W hS; go_simp; all_goals with_reducible rfl
        try simp only [List.setIfInBounds_toArray, List.set_cons_succ, List.set_cons_zero]
        refine reg_one 1 5 #[true, true, true, true, true, true, true, false, false, false, true, true, true, true, true, true, false, false] (by kernel_rfl) rfl (by rfl) (by kernel_rfl) (fun K hK => ?_)
        go_simp
        refine hK _ _ (Till.mk' (hS0.alloc _) trivial) ?_
        clear hK K
        try simp only [List.setIfInBounds_toArray, List.set_cons_succ, List.set_cons_zero]
        refine reg_take 7 27 4 #[true, true, true, true, true, true, true, true, false, false, true, true, true, true, true, true, false, false] (by rfl) (v := ?_) rfl rfl (by kernel_rfl) (by kernel_rfl) (by kernel_rfl) (by kernel_rfl) (fun _ _ _ h => h) (by rfl) ?_ (Till.mk' (hS0.alloc _) trivial) ?_
        rotate_left
        · intro W hS; go_simp; all_goals with_reducible rfl
        try simp only [List.setIfInBounds_toArray, List.set_cons_succ, List.set_cons_zero]
        refine reg_one 8 3 #[true, true, true, true, true, true, true, true, true, false, true, true, true, true, true, true, false, false] (by kernel_rfl) rfl (by rfl) (by kernel_rfl) (fun K hK => ?_)
        go_simp
        refine hK _ _ (Till.mk' (hS0.alloc _) trivial) ?_
        clear hK K
        try simp only [List.setIfInBounds_toArray, List.set_cons_succ, List.set_cons_zero]
        refine reg_take 9 29 2 #[true, true, true, true, true, true, true, true, true, true, true, true, true, true, true, true, false, false] (by rfl) (v := ?_) rfl rfl (by kernel_rfl) (by kernel_rfl) (by kernel_rfl) (by kernel_rfl) (fun _ _ _ h => h) (by rfl) ?_ (Till.mk' (hS0.alloc _) trivial) ?_
        rotate_left
        · intro W hS; go_simp; all_goals with_reducible rfl
        try simp only [List.setIfInBounds_toArray, List.set_cons_succ, List.set_cons_zero]
        refine reg_take 16 36 1 #[true, true, true, true, true, true, true, true, true, true, true, true, true, true, true, true, true, false] (by rfl) (v := ?_) rfl rfl (by kernel_rfl) (by kernel_rfl) (by kernel_rfl) (by kernel_rfl) (fun _ _ _ h => h) (by rfl) ?_ (Till.mk' (hS0.alloc _) trivial) ?_
        rotate_left
        · intro W hS; go_simp; all_goals with_reducible rfl
        try simp only [List.setIfInBounds_toArray, List.set_cons_succ, List.set_cons_zero]
        refine reg_take 17 4 0 #[true, true, true, true, true, true, true, true, true, true, true, true, true, true, true, true, true, true] (by rfl) (v := ?_) rfl rfl (by kernel_rfl) (by kernel_rfl) (by kernel_rfl) (by kernel_rfl) (fun _ _ _ h => h) (by rfl) ?_ (Till.mk' (hS0.alloc _) trivial) ?_
        rotate_left
        · intro W hS; go_simp; all_goals with_reducible rfl
        try simp only [List.setIfInBounds_toArray, List.set_cons_succ, List.set_cons_zero]
        refine reg_done (by kernel_rfl) ?_ _
        go_wp2_with fail
        go_roundw
        case rel => exact ⟨k + 1, by omega, by go_num, by rw [hst2.out]; exact wrap_add2 m _ 9 ⟨by decide, by decide⟩ hszb h60, HX.out.trans (hS0.alloc _) (by simp)⟩
        case measure => (simp [intOf] <;> omega)
      · have hst2 := Lib.hid (show ((szs (G.take (k + 1)) : Nat) : Int) = (m : Int) + 3 + (ss.size : Int) from hst.out)
        refine reg_begin (fun W => Turns [] wr W) (fun _ => True) 18 18 #[false, false, false, false, false, false, false, false, false, false, false, false, false, false, false, false, false, false] (by kernel_rfl) (by kernel_rfl) (by kernel_rfl) ?_
        refine reg_take 0 20 17 #[true, false, false, false, false, false, false, false, false, false, false, false, false, false, false, false, false, false] (by rfl) (v := ?_) rfl rfl (by kernel_rfl) (by kernel_rfl) (by kernel_rfl) (by kernel_rfl) (fun _ _ _ h => h) (by rfl) ?_ (Till.mk' hS0 trivial) ?_
        rotate_left
        · intro W hS; go_simp; all_goals with_reducible rfl
        try simp only [List.setIfInBounds_toArray, List.set_cons_succ, List.set_cons_zero]
        refine reg_take 2 22 16 #[true, false, true, false, false, false, false, false, false, false, false, false, false, false, false, false, false, false] (by rfl) (v := ?_) rfl rfl (by kernel_rfl) (by kernel_rfl) (by kernel_rfl) (by kernel_rfl) (fun _ _ _ h => h) (by rfl) ?_ (Till.mk' hS0 trivial) ?_
        rotate_left
        · intro W hS; go_simp; all_goals with_reducible rfl
        try simp only [List.setIfInBounds_toArray, List.set_cons_succ, List.set_cons_zero]
        refine reg_take 3 23 15 #[true, false, true, true, false, false, false, false, false, false, false, false, false, false, false, false, false, false] (by rfl) (v := ?_) rfl rfl (by kernel_rfl) (by kernel_rfl) (by kernel_rfl) (by kernel_rfl) (fun _ _ _ h => h) (by rfl) ?_ (Till.mk' hS0 trivial) ?_
        rotate_left
        · intro W hS; go_simp; all_goals with_reducible rfl
        try simp only [List.setIfInBounds_toArray, List.set_cons_succ, List.set_cons_zero]
        refine reg_take 4 24 14 #[true, false, true, true, true, false, false, false, false, false, false, false, false, false, false, false, false, false] (by rfl) (v := ?_) rfl rfl (by kernel_rfl) (by kernel_rfl) (by kernel_rfl) (by kernel_rfl) (fun _ _ _ h => h) (by rfl) ?_ (Till.mk' hS0 trivial) ?_
        rotate_left
        · intro W hS; go_simp; all_goals with_reducible rfl
        try simp only [List.setIfInBounds_toArray, List.set_cons_succ, List.set_cons_zero]
        refine reg_take 5 25 13 #[true, false, true, true, true, true, false, false, false, false, false, false, false, false, false, false, false, false] (by rfl) (v := ?_) rfl rfl (by kernel_rfl) (by kernel_rfl) (by kernel_rfl) (by kernel_rfl) (fun _ _ _ h => h) (by rfl) ?_ (Till.mk' hS0 trivial) ?_
        rotate_left
        · intro W hS; go_simp; all_goals with_reducible rfl
        try simp only [List.setIfInBounds_toArray, List.set_cons_succ, List.set_cons_zero]
        refine reg_take 6 26 12 #[true, false, true, true, true, true, true, false, false, false, false, false, false, false, false, false, false, false] (by rfl) (v := ?_) rfl rfl (by kernel_rfl) (by kernel_rfl) (by kernel_rfl) (by kernel_rfl) (fun _ _ _ h => h) (by rfl) ?_ (Till.mk' hS0 trivial) ?_
        rotate_left
        · intro W hS; have c2 := cellV hS r0; go_simp; all_goals with_reducible rfl
        try simp only [List.setIfInBounds_toArray, List.set_cons_succ, List.set_cons_zero]
        refine reg_take 10 30 11 #[true, false, true, true, true, true, true, false, false, false, true, false, false, false, false, false, false, false] (by rfl) (v := ?_) rfl rfl (by kernel_rfl) (by kernel_rfl) (by kernel_rfl) (by kernel_rfl) (fun _ _ _ h => h) (by rfl) ?_ (Till.mk' hS0 trivial) ?_
        rotate_left
        · intro W hS; go_simp; all_goals with_reducible rfl
        try simp only [List.setIfInBounds_toArray, List.set_cons_succ, List.set_cons_zero]
        refine reg_take 11 31 10 #[true, false, true, true, true, true, true, false, false, false, true, true, false, false, false, false, false, false] (by rfl) (v := ?_) rfl rfl (by kernel_rfl) (by kernel_rfl) (by kernel_rfl) (by kernel_rfl) (fun _ _ _ h => h) (by rfl) ?_ (Till.mk' hS0 trivial) ?_
        rotate_left
        · intro W hS; go_simp; all_goals with_reducible rfl
        try simp only [List.setIfInBounds_toArray, List.set_cons_succ, List.set_cons_zero]
        refine reg_take 12 32 9 #[true, false, true, true, true, true, true, false, false, false, true, true, true, false, false, false, false, false] (by rfl) (v := ?_) rfl rfl (by kernel_rfl) (by kernel_rfl) (by kernel_rfl) (by kernel_rfl) (fun _ _ _ h => h) (by rfl) ?_ (Till.mk' hS0 trivial) ?_
        rotate_left
        · intro W hS; go_simp; all_goals with_reducible rfl
        try simp only [List.setIfInBounds_toArray, List.set_cons_succ, List.set_cons_zero]
        refine reg_take 13 33 8 #[true, false, true, true, true, true, true, false, false, false, true, true, true, true, false, false, false, false] (by rfl) (v := ?_) rfl rfl (by kernel_rfl) (by kernel_rfl) (by kernel_rfl) (by kernel_rfl) (fun _ _ _ h => h) (by rfl) ?_ (Till.mk' hS0 trivial) ?_
        rotate_left
        · intro W hS; go_simp; all_goals with_reducible rfl
        try simp only [List.setIfInBounds_toArray, List.set_cons_succ, List.set_cons_zero]
        refine reg_take 14 34 7 #[true, false, true, true, true, true, true, false, false, false, true, true, true, true, true, false, false, false] (by rfl) (v := ?_) rfl rfl (by kernel_rfl) (by kernel_rfl) (by kernel_rfl) (by kernel_rfl) (fun _ _ _ h => h) (by rfl) ?_ (Till.mk' hS0 trivial) ?_
        rotate_left
        · intro W hS; have c2 := cellV hS r2; go_simp; all_goals with_reducible rfl
        try simp only [List.setIfInBounds_toArray, List.set_cons_succ, List.set_cons_zero]
        refine reg_take 15 35 6 #[true, false, true, true, true, true, true, false, false, false, true, true, true, true, true, true, false, false] (by rfl) (v := ?_) rfl rfl (by kernel_rfl) (by kernel_rfl) (by kernel_rfl) (by kernel_rfl) (fun _ _ _ h => h) (by rfl) ?_ (Till.mk' hS0 trivial) ?_
        rotate_left
        · intro W hS; go_simp; all_goals with_reducible rfl
        try simp only [List.setIfInBounds_toArray, List.set_cons_succ, List.set_cons_zero]
        refine reg_one 1 5 #[true, true, true, true, true, true, true, false, false, false, true, true, true, true, true, true, false, false] (by kernel_rfl) rfl (by rfl) (by kernel_rfl) (fun K hK => ?_)
        go_simp
        refine hK _ _ (Till.mk' (hS0.alloc _) trivial) ?_
        clear hK K
        try simp only [List.setIfInBounds_toArray, List.set_cons_succ, List.set_cons_zero]
        refine reg_take 7 27 4 #[true, true, true, true, true, true, true, true, false, false, true, true, true, true, true, true, false, false] (by rfl) (v := ?_) rfl rfl (by kernel_rfl) (by kernel_rfl) (by kernel_rfl) (by kernel_rfl) (fun _ _ _ h => h) (by rfl) ?_ (Till.mk' (hS0.alloc _) trivial) ?_
        rotate_left
        · intro W hS; go_simp; all_goals with_reducible rfl
        try simp only [List.setIfInBounds_toArray, List.set_cons_succ, List.set_cons_zero]
        refine reg_one 8 3 #[true, true, true, true, true, true, true, true, true, false, true, true, true, true, true, true, false, false] (by kernel_rfl) rfl (by rfl) (by kernel_rfl) (fun K hK => ?_)
        go_simp
        refine hK _ _ (Till.mk' (hS0.alloc _) trivial) ?_
        clear hK K
        try simp only [List.setIfInBounds_toArray, List.set_cons_succ, List.set_cons_zero]
        refine reg_take 9 29 2 #[true, true, true, true, true, true, true, true, true, true, true, true, true, true, true, true, false, false] (by rfl) (v := ?_) rfl rfl (by kernel_rfl) (by kernel_rfl) (by kernel_rfl) (by kernel_rfl) (fun _ _ _ h => h) (by rfl) ?_ (Till.mk' (hS0.alloc _) trivial) ?_
        rotate_left
        · intro W hS; go_simp; all_goals with_reducible rfl
        try simp only [List.setIfInBounds_toArray, List.set_cons_succ, List.set_cons_zero]
        refine reg_take 16 36 1 #[true, true, true, true, true, true, true, true, true, true, true, true, true, true, true, true, true, false] (by rfl) (v := ?_) rfl rfl (by kernel_rfl) (by kernel_rfl) (by kernel_rfl) (by kernel_rfl) (fun _ _ _ h => h) (by rfl) ?_ (Till.mk' (hS0.alloc _) trivial) ?_
        rotate_left
        · intro W hS; go_simp; all_goals with_reducible rfl
        try simp only [List.setIfInBounds_toArray, List.set_cons_succ, List.set_cons_zero]
        refine reg_take 17 4 0 #[true, true, true, true, true, true, true, true, true, true, true, true, true, true, true, true, true, true] (by rfl) (v := ?_) rfl rfl (by kernel_rfl) (by kernel_rfl) (by kernel_rfl) (by kernel_rfl) (fun _ _ _ h => h) (by rfl) ?_ (Till.mk' (hS0.alloc _) trivial) ?_
        rotate_left
        · intro W hS; go_simp; all_goals with_reducible rfl
        try simp only [List.setIfInBounds_toArray, List.set_cons_succ, List.set_cons_zero]
        refine reg_done (by kernel_rfl) ?_ _
        go_wp2_with fail
        go_roundw
        case rel => exact ⟨k + 1, by omega, by go_num, by rw [hst2.out]; exact wrap_add2 m _ 3 ⟨by decide, by decide⟩ hszb h60, HX.out.trans (hS0.alloc _) (by simp)⟩
        case measure => (simp [intOf] <;> omega)
    · obtain rfl : k = G.length := by omega
      rw [List.take_length]
      have hb := szs_row G
      have RB := Lib.hid (RowBytes_any G A3 G.length c3 w3.heap.size wr (fun x hx => (hgood.out x hx).2) (tx.slice HG.out (Nat.le_refl _) (by simp)) tx.size (by omega))
      have HT := Lib.hid (HT.out.trans tx (by simp))
      clear tx
      go_wp2_with fail
      refine RB.out.mono ?_
      rintro e w5 ⟨v5, rfl, m5⟩
      obtain ⟨A5, c5, rfl⟩ := own_formV m5.own
      have hsl := m5.sl
      have HT5 := Lib.hid (HT.out.trans m5.turns (by simp))
      obtain ⟨_, _, _, ee, h1, h2, _, hrd⟩ := hsl
      injection ee with e1 e2 e3
      subst e1
      obtain ⟨b, off, rfl, _, hcell⟩ := hrd (by simp [bvs, rowBytes])
      have c0 : w5.cell? ⟨b, off, none⟩ = some (.int .u8 (G.length : Nat)) := by
        have h := hcell 0 (u8v (byte1 (G.length : Nat))) (by simp [bvs, rowBytes])
        rw [← u8v_byte1, Int.emod_eq_of_lt (by omega) (by omega)] at h
        exact h
      rw [hb] at *
      clear hcell hrd h1 h2 m5 RB
      have hsp : 1 ≤ szs G := by unfold szs; omega
      have hsz9 : szs G ≤ 1000000 := by
        have := valsBytes_len G
        unfold szs; omega
      generalize szs G = m at *
      go_wp2_with fail
      go_ret
      exact ⟨rfl, HT5.out.below (Nat.le_refl _) (by simp)⟩
end Go.Proofs.Ytfehhiegnhplhaa
