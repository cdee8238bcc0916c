/- The law RowBytes, walked. -/
import Derived.Test.YtfehhiegnhplhaaVSames
import Derived.Test.YtfehhiegnhplhaaArgI
import Derived.Laws.BitsLemmas
import Derived.Deep.CutBlock
namespace Go.Proofs.Ytfehhiegnhplhaa
open Go.RowKit
set_option linter.unusedVariables false
set_option maxRecDepth 10000
set_option linter.unusedSimpArgs false
set_option linter.unnecessarySimpa false

/-- Four slices of bytes in a row, the first of them these. -/
def Rows4 (w w' : World) (l0 : List UInt8) (u : Value) : Prop := ∃ (q : Nat) (vs : List Value), u = .slice (some ⟨q, 0, none⟩) 4 4 ∧ vs.length = 4 ∧ Blk w' q vs 29 ∧
  (∀ j, j < 4 → ∃ (A : Option Addr) (m c : Nat) (l : List UInt8), vs[j]? = some (.slice A m c) ∧ l.length = m ∧ m ≤ 2000000 ∧ (j = 0 → l = l0) ∧ Sl w' w'.heap.size 1 (.slice A m c) m (bvs l)) ∧ Turns [] w w'
/-- A row of bytes of its own, so many. -/
def DIs (y : World) (N : Nat) (v : Value) (w : World) : Prop := ∃ ds : List UInt8, ds.length = N ∧ w.ownsRow y.heap.size 5 1 v N (bvs ds) ∧ Turns [] y w
theorem tdiv_bounds (a n : Int) (h1 : -9223372036854775808 ≤ a) (h2 : a ≤ 9223372036854775807) (hn : 0 < n) : -9223372036854775808 ≤ a.tdiv n ∧ a.tdiv n ≤ 9223372036854775807 := by
  have := Int.natAbs_tdiv_le_natAbs a n
  by_cases h : 0 ≤ a
  · have := Int.tdiv_nonneg h (by omega : 0 ≤ n)
    omega
  · have : 0 ≤ (-a).tdiv n := Int.tdiv_nonneg (by omega) (by omega)
    rw [Int.neg_tdiv] at this
    omega
theorem u8_add (a b : UInt8) : Value.int .u8 (IntKind.u8.wrap ((a.toNat : Int) + (b.toNat : Int))) = u8v (a + b) := by
  rw [IntKind.wrap_u8]
  unfold u8v
  rw [UInt8.toNat_add]
  congr 1
theorem bvs_set (l : List UInt8) (k : Nat) (b : UInt8) : bvs (l.set k b) = (bvs l).set k (u8v b) := by unfold bvs; rw [List.map_set]
theorem rowRes_len (bs : List UInt8) : (rowRes bs).1.length ≤ 6 := by
  have hl := headR_le ⟨bs, 0⟩
  have hlen := RS.vals_len (RS.headR ⟨bs, 0⟩).2 (RS.headR ⟨bs, 0⟩).1
  unfold rowRes RS.row finR
  split
  · simp
  · split
    · simp
    · simp only; omega
theorem rowRes_fits (bs : List UInt8) : ∀ x ∈ (rowRes bs).1, x.fits := by
  have hfit := vals_fits (RS.headR ⟨bs, 0⟩).2 (RS.headR ⟨bs, 0⟩).1
  unfold rowRes RS.row finR
  split
  · simp
  · split
    · simp
    · exact hfit
theorem rowBytes_pos (l : List Val) : 0 < (rowBytes l).length := by unfold rowBytes; simp
theorem first_ok (G : List Val) (h : ∀ c ∈ G, vcheck c = 0 ∧ c.fits) (h12 : G.length ≤ 12) : ((rowRes (rowBytes G)).2 == 0) = decide (G.length ≤ 6) := by
  by_cases h6 : G.length ≤ 6
  · rw [row_good G h h6, decide_eq_true h6]; rfl
  · rw [row_many G (by omega) (by omega), decide_eq_false h6]; rfl

set_option maxRecDepth 100000 in
set_option maxHeartbeats 8000000 in
theorem RowBytes_walk (v : Value) (l : List Val) (cut : Int) (av yv rv : Value) (la ly lr : Nat) (zs : List Int) (ys raw : List UInt8) (w : World) (h : ValsArg w v l)
    (ha : Sl w w.heap.size 1 av la (zs.map (Value.int .i64))) (hza : ∀ z ∈ zs, -9223372036854775808 ≤ z ∧ z ≤ 9223372036854775807) (hy : Sl w w.heap.size 1 yv ly (bvs ys)) (hcut : -9223372036854775808 ≤ cut ∧ cut ≤ 9223372036854775807) (hr : Sl w w.heap.size 1 rv lr (bvs raw)) :
    Calls Try.prog 5 #[v, av, yv, .int .i64 cut, rv] w fun e w' => e = .returned (.bool true) ∧ Below w.heap.size w w' := by
  obtain rfl : raw.length = lr := by have := hr.1; rw [bvs_length] at this; omega
  obtain rfl : ys.length = ly := by have := hy.1; rw [bvs_length] at this; omega
  obtain rfl : zs.length = la := by have := ha.1; rw [List.length_map] at this; omega
  obtain ⟨hs, hf⟩ := h
  obtain ⟨A, c, rfl⟩ : ∃ A c, v = .slice A l.length c := by obtain ⟨_, A, c, hv, _⟩ := hs; exact ⟨A, c, hv⟩
  have har := Lib.hid ha
  have hyr := Lib.hid hy
  have hrr := Lib.hid hr
  obtain ⟨-, Aa, ca, rfl, hla, hla2, -, -⟩ := ha
  obtain ⟨-, Ay, cy, rfl, hly, hly2, -, -⟩ := hy
  obtain ⟨-, Ar, cr, rfl, hlr, hlr2, -, -⟩ := hr
  unfold maxLen at hla2 hly2 hlr2
  have KN := Lib.hid (known5_any w)
  have HS := Lib.hid hs
  have HZA := Lib.hid hza
  clear hs hza
  go_enter Try.func5, Try.ntmps5
  go_wp2_with fail
  refine KN.out.mono ?_
  rintro e w1 ⟨rfl, t1⟩
  have FW := Lib.hid (FewVs_any l A l.length c w.heap.size w1 hf (t1.slice HS.out (Nat.le_refl _) (by simp)) t1.size)
  have HT := Lib.hid t1
  clear t1 KN
  go_wp2_with fail
  refine FW.out.mono ?_
  rintro e w2 ⟨rfl, t2⟩
  have HT := Lib.hid (HT.out.trans t2 (by simp))
  clear t2 FW
  cases hfw : fewVs l
  · go_wp2_with fail
    go_ret
    exact ⟨rfl, HT.out.below (Nat.le_refl _) (by simp)⟩
  by_cases hr2 : 200 < raw.length
  · have x1 : 200 < (raw.length : Int) := by omega
    go_wp2_with fail
    go_ret
    exact ⟨rfl, HT.out.below (Nat.le_refl _) (by simp)⟩
  have x1 : (raw.length : Int) ≤ 200 := by omega
  have h12 := fewVs_len hfw
  have GD := Lib.hid (Good5_any l A l.length c w.heap.size w2 hf (HT.out.slice HS.out (Nat.le_refl _) (by simp)) HT.out.size (by omega))
  go_wp2_with fail
  refine GD.out.mono ?_
  rintro e w3 ⟨A3, c3, rfl, o3, t3⟩
  have HT := Lib.hid (HT.out.trans t3 (by simp))
  have hgood := Lib.hid (fewVs_good hf)
  have hlen : (l.map gval).length = l.length := by simp
  generalize l.map gval = G at o3 hgood hlen
  rw [← hlen] at o3 h12 ⊢
  have HG := Lib.hid (Sl.of_own o3)
  clear o3 t3 GD hfw HS hf hlen
  have hN9 := rowBytes_pos G
  have h9 : (rowBytes G).length ≤ 900000 := by have := rowBytes_len G; omega
  have RB := Lib.hid (RowBytes_any G A3 G.length c3 w3.heap.size w3 (fun x hx => (hgood.out x hx).2) HG.out (Nat.le_refl _) (by omega))
  go_wp2_with fail
  refine RB.out.mono ?_
  rintro e w5 ⟨vb, rfl, m5⟩
  have slb := m5.sl
  obtain ⟨Ab, cb, rfl⟩ := own_formV m5.own
  have hlb : (rowBytes G).length ≤ cb ∧ cb ≤ 9223372036854775807 := by
    obtain ⟨_, _, _, ee, h1, h2, _⟩ := slb
    injection ee with _ _ e3
    subst e3
    unfold maxLen at h2
    omega
  have HT := Lib.hid (HT.out.trans m5.turns (by simp))
  have HG := Lib.hid (m5.turns.slice HG.out (Nat.le_refl _) (by simp))
  have HLG := Lib.hid m5.turns.size
  clear m5 RB
  obtain ⟨N, hN⟩ : ∃ N, N = (rowBytes G).length := ⟨_, rfl⟩
  rw [← hN] at slb hN9 h9 hlb ⊢
  have HN := Lib.hid hN
  have HLB := Lib.hid slb
  obtain ⟨sA, hsA⟩ : ∃ sA, sA = strOf (rowBytes G) := ⟨_, rfl⟩
  have HSA := Lib.hid hsA
  clear slb hN hsA
  have S0 : Turns [] w5 w5.drew := (Turns.refl _ _).drew
  go_upto_region 7 with fail
  have hS := S0
  refine reg_begin (fun W => Turns [] w5 W) (fun _ => True) 6 6 #[false, false, false, false, false, false] (by kernel_rfl) (by kernel_rfl) (by kernel_rfl) ?_
  refine reg_take 0 35 5 #[true, false, false, false, false, false] (by rfl) (v := ?_) rfl rfl (by kernel_rfl) (by kernel_rfl) (by kernel_rfl) (by kernel_rfl) (fun _ _ _ h => h) (by rfl) ?_ (Till.mk' hS trivial) ?_
  rotate_left
  · intro W hS; go_simp; all_goals with_reducible rfl
  try simp only [List.setIfInBounds_toArray, List.set_cons_succ, List.set_cons_zero]
  refine reg_take 1 36 4 #[true, true, false, false, false, false] (by rfl) (v := ?_) rfl rfl (by kernel_rfl) (by kernel_rfl) (by kernel_rfl) (by kernel_rfl) (fun _ _ _ h => h) (by rfl) ?_ (Till.mk' hS trivial) ?_
  rotate_left
  · intro W hS; have hcv := conv_str (P := Try.prog) (dst := 9) (src := 29) (Turns.slice hS HLB.out (Nat.le_refl _) (by simp)) Try.underlying29 Try.underlying5 Try.underlying9; rw [← HSA.out] at hcv; go_simp; all_goals with_reducible rfl
  try simp only [List.setIfInBounds_toArray, List.set_cons_succ, List.set_cons_zero]
  refine reg_take 2 37 3 #[true, true, true, false, false, false] (by rfl) (v := ?_) rfl rfl (by kernel_rfl) (by kernel_rfl) (by kernel_rfl) (by kernel_rfl) (fun _ _ _ h => h) (by rfl) ?_ (Till.mk' hS trivial) ?_
  rotate_left
  · intro W hS; go_simp; all_goals with_reducible rfl
  try simp only [List.setIfInBounds_toArray, List.set_cons_succ, List.set_cons_zero]
  refine reg_one 3 2 #[true, true, true, true, false, false] (by kernel_rfl) rfl (by rfl) (by kernel_rfl) (fun K hK => ?_)
  go_simp
  refine (refRowBytes_any G A3 G.length c3 w5.heap.size _ (fun x hx => (hgood.out x hx).2) (hS.slice (HG.out.more HLG.out) (Nat.le_refl _) (by simp)) hS.size (by omega)).mono ?_
  rintro e x1' ⟨v6, rfl, m6⟩
  have S1 := hS.trans m6.turns (by simp)
  have hS := S1
  have sv6 := m6.sl
  clear m6
  refine hK _ _ (Till.mk' hS trivial) ?_
  clear hK K
  try simp only [List.setIfInBounds_toArray, List.set_cons_succ, List.set_cons_zero]
  refine reg_one 4 1 #[true, true, true, true, true, false] (by kernel_rfl) rfl (by rfl) (by kernel_rfl) (fun K hK => ?_)
  have hcv := conv_str (P := Try.prog) (dst := 9) (src := 29) sv6 Try.underlying29 Try.underlying5 Try.underlying9
  rw [← HSA.out] at hcv
  go_simp
  clear hcv
  refine hK _ _ (Till.mk' hS trivial) ?_
  clear hK K
  try simp only [List.setIfInBounds_toArray, List.set_cons_succ, List.set_cons_zero]
  refine reg_take 5 40 0 #[true, true, true, true, true, true] (by rfl) (v := ?_) rfl rfl (by kernel_rfl) (by kernel_rfl) (by kernel_rfl) (by kernel_rfl) (fun _ _ _ h => h) (by rfl) ?_ (Till.mk' hS trivial) ?_
  rotate_left
  · intro W hS; go_simp; all_goals with_reducible rfl
  try simp only [List.setIfInBounds_toArray, List.set_cons_succ, List.set_cons_zero]
  refine reg_done (by kernel_rfl) ?_ _
  obtain ⟨y4, hy4⟩ : ∃ y4, y4 = x1' := ⟨_, rfl⟩
  subst hy4
  have HT := Lib.hid (HT.out.trans S1 (by simp))
  have hb4 := S1.slice HLB.out (Nat.le_refl _) (by simp)
  have hz4 := S1.size
  obtain ⟨vd, y5, hrd, ownd, tcd⟩ := run_fresh_copy y4 hb4 hz4 (by omega) 29
  have HRD := Lib.hid hrd
  have HLB := Lib.hid (hb4.more hz4)
  have H7 := Lib.hid (And.intro ownd tcd)
  obtain ⟨Ad, cd, rfl⟩ := own_formV ownd
  have HSG := Lib.hid (S1.slice (HG.out.more HLG.out) (Nat.le_refl _) (by simp))
  clear hb4 ownd tcd hrd S0 S1 HG HLG
  go_upto_region 9 with fail
  have hrd := HRD.out
  go_upto_block 0 with (at_builtin; refine wpList_append_at rfl (.tmp 41) (.tmp 42) rfl hrd rfl rfl ?_)
  clear hrd
  go_cut [] (fun wx => DIs y4 N (.slice Ad N cd) wx)
  case first =>
    go_wp2_with fail
    go_loopw [14] (fun i wr => ∃ k : Nat, k ≤ 3 ∧ i = .int .i64 k ∧ DIs y4 N (.slice Ad N cd) wr) (fun i _ => 3 - (intOf i).toNat)
    case atStart => exact ⟨0, by omega, rfl, rowBytes G, HN.out.symm, H7.out.1, H7.out.2⟩
    case round =>
      obtain ⟨k, hk3, rfl, ds, hdl, od, td⟩ := hrel
      have HOD := Lib.hid (And.intro od td)
      by_cases hla1 : k < zs.length
      · by_cases hly1 : k < ys.length
        · by_cases hk4 : k < 3
          · have xa : (k : Int) < (zs.length : Int) := by omega
            have xy : (k : Int) < (ys.length : Int) := by omega
            have xda : decide (k < zs.length) = true := decide_eq_true hla1
            have xdy : decide (k < ys.length) = true := decide_eq_true hly1
            have tw := HT.out.trans td (by simp)
            obtain ⟨_, _, _, ee, _, _, _, hrd⟩ := har.out
            injection ee with e1 _ _
            subst e1
            obtain ⟨ba, oa, rfl, _, qa⟩ := hrd.at_ (k := k) (by rw [List.length_map]; exact hla1)
            rw [List.getElem_map] at qa
            have qa := cellV tw qa
            obtain ⟨_, _, _, ee, _, _, _, hrd⟩ := hyr.out
            injection ee with e1 _ _
            subst e1
            obtain ⟨bb, ob, rfl, _, qy⟩ := hrd.at_ (k := k) (by rw [bvs_length]; exact hly1)
            have qy := cellV tw qy
            obtain ⟨gd, cc, ee, hnc, hcm, hgb, hgl, hcell⟩ := own_cells od hN9
            injection ee with e1 e2 e3
            subst e1 e3
            obtain ⟨zk, hzk⟩ : ∃ zk, zk = zs[k] := ⟨_, rfl⟩
            have hzb := HZA.out zk (by rw [hzk]; exact List.getElem_mem hla1)
            obtain ⟨j, hj⟩ : ∃ j : Nat, zk % (N : Int) = j := ⟨(zk % (N : Int)).toNat, by have := Int.emod_nonneg zk (show (N : Int) ≠ 0 by omega); omega⟩
            have hjN : j < N := by have := Int.emod_lt_of_pos zk (show (0 : Int) < (N : Int) by omega); omega
            have WI := fun W => within_any zk N W hzb.1 hzb.2 (by omega) (by omega)
            rw [hj] at WI
            replace WI := Lib.hid WI
            rw [← hzk] at qa
            have hjb : j < (bvs ds).length := by rw [bvs_length]; omega
            obtain ⟨qd, fd⟩ := hcell j (bvs ds)[j] (List.getElem?_eq_getElem hjb)
            have hjd : j < ds.length := by omega
            rw [show (bvs ds)[j]'(by rw [bvs_length]; omega) = u8v ds[j] by simp [bvs]] at qd
            rw [show (bvs ys)[k]'(by rw [bvs_length]; omega) = u8v ys[k] by simp [bvs]] at qy
            unfold u8v at qd qy
            have hji : (j : Int) < (N : Int) := by omega
            have hS0 : Turns [] wr wr.drew := (Turns.refl _ _).drew
            clear hzk hj hcell tw hrd td od
            go_upto_region 13 with fail
            refine reg_begin (fun _ => True) (fun W => Turns [] wr W) 16 17 #[false, false, false, false, false, false, false, false, false, false, false, false, false, false, false, false, false] (by kernel_rfl) (by kernel_rfl) (by kernel_rfl) ?_
            refine reg_take 0 60 16 #[true, false, false, false, false, false, false, false, false, false, false, false, false, false, false, false, false] (by rfl) (v := ?_) rfl rfl (by kernel_rfl) (by kernel_rfl) (by kernel_rfl) (by kernel_rfl) (fun _ _ _ h => h) (by rfl) ?_ (Till.mk' trivial hS0) ?_
            rotate_left
            · intro W hS; go_simp; all_goals with_reducible rfl
            try simp only [List.setIfInBounds_toArray, List.set_cons_succ, List.set_cons_zero]
            refine reg_take 1 61 15 #[true, true, false, false, false, false, false, false, false, false, false, false, false, false, false, false, false] (by rfl) (v := ?_) rfl rfl (by kernel_rfl) (by kernel_rfl) (by kernel_rfl) (by kernel_rfl) (fun _ _ _ h => h) (by rfl) ?_ (Till.mk' trivial hS0) ?_
            rotate_left
            · intro W hS; go_simp; all_goals with_reducible rfl
            try simp only [List.setIfInBounds_toArray, List.set_cons_succ, List.set_cons_zero]
            refine reg_take 2 62 14 #[true, true, true, false, false, false, false, false, false, false, false, false, false, false, false, false, false] (by rfl) (v := ?_) rfl rfl (by kernel_rfl) (by kernel_rfl) (by kernel_rfl) (by kernel_rfl) (fun _ _ _ h => h) (by rfl) ?_ (Till.mk' trivial hS0) ?_
            rotate_left
            · intro W hS; go_simp; all_goals with_reducible rfl
            try simp only [List.setIfInBounds_toArray, List.set_cons_succ, List.set_cons_zero]
            refine reg_take 3 63 13 #[true, true, true, true, false, false, false, false, false, false, false, false, false, false, false, false, false] (by rfl) (v := ?_) rfl rfl (by kernel_rfl) (by kernel_rfl) (by kernel_rfl) (by kernel_rfl) (fun _ _ _ h => h) (by rfl) ?_ (Till.mk' trivial hS0) ?_
            rotate_left
            · intro W hS; go_simp; all_goals with_reducible rfl
            try simp only [List.setIfInBounds_toArray, List.set_cons_succ, List.set_cons_zero]
            refine reg_take_t 4 64 12 #[true, true, true, true, true, false, false, false, false, false, false, false, false, false, false, false, false] (by rfl) (v := ?_) rfl rfl (by kernel_rfl) (by kernel_rfl) (by kernel_rfl) (by kernel_rfl) (fun _ _ _ h => h) (by rfl) (by kernel_rfl) (by kernel_rfl) ?_ (Till.mk' trivial hS0) ?_
            rotate_left
            · rintro W ⟨-, hS⟩; have c2 := cellV hS qa; go_simp; all_goals with_reducible rfl
            try simp only [List.setIfInBounds_toArray, List.set_cons_succ, List.set_cons_zero]
            refine reg_take 5 65 11 #[true, true, true, true, true, true, false, false, false, false, false, false, false, false, false, false, false] (by rfl) (v := ?_) rfl rfl (by kernel_rfl) (by kernel_rfl) (by kernel_rfl) (by kernel_rfl) (fun _ _ _ h => h) (by rfl) ?_ (Till.mk' trivial hS0) ?_
            rotate_left
            · intro W hS; go_simp; all_goals with_reducible rfl
            try simp only [List.setIfInBounds_toArray, List.set_cons_succ, List.set_cons_zero]
            refine reg_take 6 66 10 #[true, true, true, true, true, true, true, false, false, false, false, false, false, false, false, false, false] (by rfl) (v := ?_) rfl rfl (by kernel_rfl) (by kernel_rfl) (by kernel_rfl) (by kernel_rfl) (fun _ _ _ h => h) (by rfl) ?_ (Till.mk' trivial hS0) ?_
            rotate_left
            · intro W hS; go_simp; all_goals with_reducible rfl
            try simp only [List.setIfInBounds_toArray, List.set_cons_succ, List.set_cons_zero]
            refine reg_take 10 70 9 #[true, true, true, true, true, true, true, false, false, false, true, false, false, false, false, false, false] (by rfl) (v := ?_) rfl rfl (by kernel_rfl) (by kernel_rfl) (by kernel_rfl) (by kernel_rfl) (fun _ _ _ h => h) (by rfl) ?_ (Till.mk' trivial hS0) ?_
            rotate_left
            · intro W hS; go_simp; all_goals with_reducible rfl
            try simp only [List.setIfInBounds_toArray, List.set_cons_succ, List.set_cons_zero]
            refine reg_take 11 71 8 #[true, true, true, true, true, true, true, false, false, false, true, true, false, false, false, false, false] (by rfl) (v := ?_) rfl rfl (by kernel_rfl) (by kernel_rfl) (by kernel_rfl) (by kernel_rfl) (fun _ _ _ h => h) (by rfl) ?_ (Till.mk' trivial hS0) ?_
            rotate_left
            · intro W hS; go_simp; all_goals with_reducible rfl
            try simp only [List.setIfInBounds_toArray, List.set_cons_succ, List.set_cons_zero]
            refine reg_take 12 72 7 #[true, true, true, true, true, true, true, false, false, false, true, true, true, false, false, false, false] (by rfl) (v := ?_) rfl rfl (by kernel_rfl) (by kernel_rfl) (by kernel_rfl) (by kernel_rfl) (fun _ _ _ h => h) (by rfl) ?_ (Till.mk' trivial hS0) ?_
            rotate_left
            · intro W hS; go_simp; all_goals with_reducible rfl
            try simp only [List.setIfInBounds_toArray, List.set_cons_succ, List.set_cons_zero]
            refine reg_take_t 13 73 6 #[true, true, true, true, true, true, true, false, false, false, true, true, true, true, false, false, false] (by rfl) (v := ?_) rfl rfl (by kernel_rfl) (by kernel_rfl) (by kernel_rfl) (by kernel_rfl) (fun _ _ _ h => h) (by rfl) (by kernel_rfl) (by kernel_rfl) ?_ (Till.mk' trivial hS0) ?_
            rotate_left
            · rintro W ⟨-, hS⟩; have c2 := cellV hS qy; go_simp; all_goals with_reducible rfl
            try simp only [List.setIfInBounds_toArray, List.set_cons_succ, List.set_cons_zero]
            refine reg_one 7 5 #[true, true, true, true, true, true, true, true, false, false, true, true, true, true, false, false, false] (by kernel_rfl) rfl (by rfl) (by kernel_rfl) (fun K hK => ?_)
            go_simp
            refine (WI.out _).mono ?_
            rintro e ww ⟨rfl, rfl⟩
            refine hK _ _ (Till.mk' trivial hS0) ?_
            clear hK K
            try simp only [List.setIfInBounds_toArray, List.set_cons_succ, List.set_cons_zero]
            refine reg_take 8 68 4 #[true, true, true, true, true, true, true, true, true, false, true, true, true, true, false, false, false] (by rfl) (v := ?_) rfl rfl (by kernel_rfl) (by kernel_rfl) (by kernel_rfl) (by kernel_rfl) (fun _ _ _ h => h) (by rfl) ?_ (Till.mk' trivial hS0) ?_
            rotate_left
            · intro W hS; go_simp; all_goals with_reducible rfl
            try simp only [List.setIfInBounds_toArray, List.set_cons_succ, List.set_cons_zero]
            refine reg_take_t 9 69 3 #[true, true, true, true, true, true, true, true, true, true, true, true, true, true, false, false, false] (by rfl) (v := ?_) rfl rfl (by kernel_rfl) (by kernel_rfl) (by kernel_rfl) (by kernel_rfl) (fun _ _ _ h => h) (by rfl) (by kernel_rfl) (by kernel_rfl) ?_ (Till.mk' trivial hS0) ?_
            rotate_left
            · rintro W ⟨-, hS⟩; have c2 := cellV hS qd; go_simp; all_goals with_reducible rfl
            try simp only [List.setIfInBounds_toArray, List.set_cons_succ, List.set_cons_zero]
            refine reg_take 14 74 2 #[true, true, true, true, true, true, true, true, true, true, true, true, true, true, true, false, false] (by rfl) (v := ?_) rfl rfl (by kernel_rfl) (by kernel_rfl) (by kernel_rfl) (by kernel_rfl) (fun _ _ _ h => h) (by rfl) ?_ (Till.mk' trivial hS0) ?_
            rotate_left
            · intro W hS; go_simp; all_goals with_reducible rfl
            try simp only [List.setIfInBounds_toArray, List.set_cons_succ, List.set_cons_zero]
            refine reg_take 15 75 1 #[true, true, true, true, true, true, true, true, true, true, true, true, true, true, true, true, false] (by rfl) (v := ?_) rfl rfl (by kernel_rfl) (by kernel_rfl) (by kernel_rfl) (by kernel_rfl) (fun _ _ _ h => h) (by rfl) ?_ (Till.mk' trivial hS0) ?_
            rotate_left
            · intro W hS; go_simp; all_goals with_reducible rfl
            try simp only [List.setIfInBounds_toArray, List.set_cons_succ, List.set_cons_zero]
            refine reg_one 16 0 #[true, true, true, true, true, true, true, true, true, true, true, true, true, true, true, true, true] (by kernel_rfl) rfl (by rfl) (by kernel_rfl) (fun K hK => ?_)
            go_simp
            refine hK _ _ (Till.past trivial (by kernel_rfl)) ?_
            clear hK K
            try simp only [List.setIfInBounds_toArray, List.set_cons_succ, List.set_cons_zero]
            refine reg_done (by kernel_rfl) ?_ _
            rw [u8_add]
            have hoo : wr.ownsRow y4.heap.size 5 1 (.slice (some ⟨gd, 0, none⟩) N cd) N (bvs ds) := HOD.out.1
            have o2 := (hoo.stored j (u8v (ds[j] + ys[k]))).1.drew
            rw [← bvs_set] at o2
            have t2 := (HOD.out.2.setCell (p := ⟨gd, j, none⟩) (.inr hgb) (u8v (ds[j] + ys[k]))).drew
            have hfin := Lib.hid (And.intro o2 t2)
            clear hoo o2 t2 WI hS0 qa qy qd fd
            go_wp2_with fail
            go_roundw
            case rel => exact ⟨k + 1, by omega, by go_num, ds.set j (ds[j] + ys[k]), by rw [List.length_set]; exact hdl, hfin.out.1, hfin.out.2⟩
            case measure => (simp [intOf] <;> omega)
          · have xk : ¬ (k : Int) < 3 := by omega
            have xa : (k : Int) < (zs.length : Int) := by omega
            have xy : (k : Int) < (ys.length : Int) := by omega
            have xda : decide (k < zs.length) = true := decide_eq_true hla1
            have xdy : decide (k < ys.length) = true := decide_eq_true hly1
            have xk' : (3 : Int) ≤ (k : Int) := by omega
            clear od td
            go_wp2_with fail
            go_meet
            exact ⟨ds, hdl, HOD.out.1, HOD.out.2⟩
        · have xa : (k : Int) < (zs.length : Int) := by omega
          have xda : decide (k < zs.length) = true := decide_eq_true hla1
          have xdy : decide (k < ys.length) = false := decide_eq_false hly1
          have xy : (ys.length : Int) ≤ (k : Int) := by omega
          clear od td
          go_wp2_with fail
          go_meet
          exact ⟨ds, hdl, HOD.out.1, HOD.out.2⟩
      · have xda : decide (k < zs.length) = false := decide_eq_false hla1
        have xa : (zs.length : Int) ≤ (k : Int) := by omega
        clear od td
        go_wp2_with fail
        go_meet
        exact ⟨ds, hdl, HOD.out.1, HOD.out.2⟩
  case rest =>
    obtain ⟨ds, hdl, od, td⟩ := hcut
    have hcdN : N ≤ cd ∧ cd ≤ 9223372036854775807 := by
      obtain ⟨_, _, _, ee, h1, h2, _⟩ := Sl.of_own od
      injection ee with _ _ e3
      subst e3
      unfold maxLen at h2
      omega
    have HD := Lib.hid (And.intro od td)
    clear od td
    go_upto_if 78 with fail
    go_cut [13] (fun u wx => ∃ m : Nat, m ≤ N ∧ u = .slice Ad m cd ∧ wx = wc)
    case first =>
      have hq := tdiv_bounds cut 2 hcut.1 hcut.2 (by omega)
      obtain ⟨m, hm⟩ : ∃ m : Nat, cut.tdiv 2 % ((N : Int) + 1) = m := ⟨(cut.tdiv 2 % ((N : Int) + 1)).toNat, by have := Int.emod_nonneg (cut.tdiv 2) (show ((N : Int) + 1) ≠ 0 by omega); omega⟩
      have hmN : m ≤ N := by have := Int.emod_lt_of_pos (cut.tdiv 2) (show (0 : Int) < (N : Int) + 1 by omega); omega
      have WI := fun W => within_any (cut.tdiv 2) ((N : Int) + 1) W hq.1 hq.2 (by omega) (by omega)
      rw [hm] at WI
      replace WI := Lib.hid WI
      have hmi : (m : Int) ≤ (cd : Int) := by omega
      clear hm
      cases hc : (cut.tmod 2 == 1)
      · go_wp2_with fail
        go_meet
        exact ⟨N, Nat.le_refl _, rfl, rfl⟩
      · go_wp2_with fail
        refine (WI.out _).mono ?_
        rintro e ww ⟨rfl, rfl⟩
        go_wp2_with fail
        go_meet
        exact ⟨m, hmN, rfl, rfl⟩
    case rest =>
      obtain ⟨m, hmN, rfl, rfl⟩ := hcut
      obtain ⟨x0, hx0⟩ : ∃ x0, x0 = wc := ⟨_, rfl⟩
      subst hx0
      have td := HD.out.2
      have sd0 := Sl.of_own HD.out.1
      have sd : Sl x0 x0.heap.size 1 (.slice Ad m cd) m (bvs (ds.take m)) := by rw [← bvs_take]; exact sd0.to hmN
      have tw := HT.out.trans td (by simp)
      have slb : Sl x0 x0.heap.size 1 (.slice Ab N cb) N (bvs (rowBytes G)) := (td.slice HLB.out (Nat.le_refl _) (by simp)).more td.size
      have slr := (tw.slice hrr.out (Nat.le_refl _) (by simp)).more tw.size
      have HSD := Lib.hid (And.intro sd (And.intro slb slr))
      obtain ⟨va, x2, hra, owna, tca⟩ := run_fresh_copy x0 slb (Nat.le_refl _) (by omega) 29
      obtain ⟨Aa', ca', rfl⟩ := own_formV owna
      obtain ⟨vb, x3, hrb, apb⟩ := run_append_rd (P := Try.prog) _ T8 29 owna (tca.slice slr (Nat.le_refl _) (by simp)) (bvs_one _) (by simp only [maxLen]; omega) (by omega) tca.size
      obtain ⟨Ab', cb', rfl⟩ := own_formV apb.own
      have tb := Turns.of_grown (L := (Value.slice Aa' N ca').ownBlock.toList) apb.grown (by intro x hx; exact .inl (by simpa using hx))
      have S3 := tca.trans tb (by intro x hx; exact .inr (owna.lt x (by simpa using hx)).1)
      have sap := Sl.of_own apb.own
      obtain ⟨q, hq⟩ : ∃ q, q = x3.heap.size := ⟨_, rfl⟩
      have vq := Blk.new x3 [.slice Ab N cb, .slice Ad m cd, .slice Ab' (N + raw.length) cb', .slice Ar raw.length cr] 29
      rw [← hq] at vq
      have tq : Turns [] x3 (x3.alloc (.cells #[.slice Ab N cb, .slice Ad m cd, .slice Ab' (N + raw.length) cb', .slice Ar raw.length cr] 29)) := (Turns.refl _ _).alloc _
      have S4 := S3.trans tq (by simp)
      have hrow : Rows4 x0 (x3.alloc (.cells #[.slice Ab N cb, .slice Ad m cd, .slice Ab' (N + raw.length) cb', .slice Ar raw.length cr] 29)) (rowBytes G) (.slice (some ⟨q, 0, none⟩) 4 4) := by
        refine ⟨q, [_, _, _, _], rfl, rfl, vq, ?_, S4⟩
        intro j hj
        match j, hj with
        | 0, _ => exact ⟨_, _, _, rowBytes G, rfl, HN.out.symm, by omega, fun _ => rfl, (S4.slice HSD.out.2.1 (Nat.le_refl _) (by simp)).more S4.size⟩
        | 1, _ => exact ⟨_, _, _, ds.take m, rfl, by rw [List.length_take]; omega, by omega, fun h => by omega, (S4.slice HSD.out.1 (Nat.le_refl _) (by simp)).more S4.size⟩
        | 2, _ => exact ⟨_, _, _, rowBytes G ++ raw, rfl, by rw [List.length_append, ← HN.out], by omega, fun h => by omega, ((tq.slice sap (Nat.le_refl _) (by simp)).more tq.size).cast (by rw [bvs_append])⟩
        | 3, _ => exact ⟨_, _, _, raw, rfl, rfl, by omega, fun h => by omega, (S4.slice HSD.out.2.2 (Nat.le_refl _) (by simp)).more S4.size⟩
      have HROW := Lib.hid hrow
      have HRA := Lib.hid (And.intro hra (And.intro hrb hq))
      have TX0 := Lib.hid tw
      clear hrow hra hrb hq vq tq S3 S4 sap tb apb owna tca sd0 sd slb slr td tw HSD
      go_upto_region 16 with fail
      go_cut [15] (fun u wx => Rows4 x0 wx (rowBytes G) u)
      case first =>
        have hra := HRA.out.1
        have hrb := HRA.out.2.1
        go_wp2_with (first
          | (at_builtin; refine wpList_append_at rfl (.tmp 89) (.tmp 90) rfl hra rfl rfl ?_)
          | (at_builtin; refine wpList_append_at rfl (.tmp 91) (.tmp 92) rfl hrb rfl rfl ?_)
          | fail)
        go_meet
        have h := HROW.out
        rw [HRA.out.2.2] at h
        exact h
      case rest =>
        obtain ⟨Z, hZ⟩ : ∃ Z, Z = wc := ⟨_, rfl⟩
        subst hZ
        obtain ⟨q, vs, rfl, hvl, vq, hrow, t1⟩ := hcut
        have HQ := Lib.hid (And.intro vq (And.intro hrow t1))
        have HTZ := Lib.hid (TX0.out.trans t1 (by simp))
        have HFO := Lib.hid (first_ok G hgood.out h12)
        clear vq hrow t1 HROW HRA
        go_wp2_with fail
        go_loopw [16] (fun i wr => ∃ k : Nat, k ≤ 4 ∧ i = .int .i64 k ∧ Turns [] Z wr) (fun i _ => 4 - (intOf i).toNat)
        case atStart => exact ⟨0, by omega, rfl, Turns.refl _ _⟩
        case round =>
          obtain ⟨k, hk4, rfl, td⟩ := hrel
          by_cases hlt : k < 4
          · obtain ⟨A4, m4, c4, l, hvs, hll, hml, hl0, hsl⟩ := HQ.out.2.1 k hlt
            have xk : (k : Int) < 4 := by omega
            have vq := HQ.out.1.turns td (by simp)
            have qk : wr.cell? ⟨q, k, none⟩ = some (.slice A4 m4 c4) := by rw [vq.cell, hvs]
            have sl := (td.slice hsl (Nat.le_refl _) (by simp)).more td.size
            subst hll
            obtain ⟨va, z1, hra, owna, tca⟩ := run_fresh_copy wr sl (Nat.le_refl _) (by omega) 29
            have qk1 := cellV tca qk
            have sl1 := (tca.slice sl (Nat.le_refl _) (by simp)).more tca.size
            have sla := Sl.of_own owna
            obtain ⟨Av, cv, rfl⟩ := own_formV owna
            have PA := RowParse_any _ l z1 sla (by omega)
            have RP := fun W hW => refRowParse_any (.slice A4 l.length c4) l W hW (by omega)
            have hinv := row_inv l
            have hrl := rowRes_len l
            have hrf := rowRes_fits l
            have hfo : k = 0 → ((rowRes l).2 == 0) = decide (G.length ≤ 6) := fun h => by rw [hl0 h]; exact HFO.out
            generalize rowRes l = res at PA RP hinv hrl hrf hfo
            obtain ⟨S, er⟩ := res
            dsimp only at hinv hrl hrf hfo
            have HPA := Lib.hid PA
            have HRP := Lib.hid RP
            have HI := Lib.hid (And.intro hinv (And.intro hrl (And.intro hrf hfo)))
            have HT := Lib.hid (And.intro (td.trans tca (by simp)) (And.intro qk1 sl1))
            have hra' := Lib.hid hra
            have qka := cellV ((Turns.refl [] wr).alloc (.cells #[] 5)) qk
            clear PA RP td tca qk1 sl1 sla owna sl vq hvs hsl hra hinv hrl hrf hfo hl0
            go_upto_region 20 with fail
            have hra := hra'.out
            go_wp2_with (at_builtin; refine wpList_append_at rfl (.tmp 101) (.tmp 105) rfl hra rfl rfl ?_)
            clear hra hra' qk qka
            refine HPA.out.mono ?_
            rintro e z2 ⟨B1, n1, k1, rfl, sp1, tt⟩
            dsimp only at sp1 ⊢
            have hn1 : n1 = S.length := by have := sp1.1; rw [valCells_length] at this; omega
            subst hn1
            have qk3 := cellV tt HT.out.2.1
            have sl3 := (tt.slice HT.out.2.2 (Nat.le_refl _) (by simp)).more tt.size
            have RP3 := Lib.hid (HRP.out z2 sl3)
            have H8 := Lib.hid (And.intro (Sl.of_own sp1) (And.intro (HT.out.1.trans tt (by simp)) sl3))
            clear sl3 tt sp1 HPA HRP HT
            go_wp2_with fail
            refine RP3.out.mono ?_
            rintro e z4 ⟨B2, n2, k2, rfl, sp2, tt⟩
            dsimp only at sp2 ⊢
            have hn2 : n2 = S.length := by have := sp2.1; rw [valCells_length] at this; omega
            subst hn2
            have sx := (tt.slice H8.out.1 (Nat.le_refl _) (by simp)).more tt.size
            have SM := SameV_any S S B1 B2 S.length S.length k1 k2 z4.heap.size z4 sx (Sl.of_own sp2) (Nat.le_refl _)
            rw [(sameVs_iff S S).2 rfl] at SM
            replace SM := Lib.hid SM
            have qk4 := cellV tt qk3
            have H9 := Lib.hid (And.intro sx (And.intro (H8.out.2.1.trans tt (by simp)) ((tt.slice H8.out.2.2 (Nat.le_refl _) (by simp)).more tt.size)))
            clear sx tt sp2 RP3 H8 qk3
            go_upto_region 22 with fail
            have hrl := HI.out.2.1
            go_wp2_with fail
            refine SM.out.mono ?_
            rintro e z5 ⟨rfl, tt⟩
            have qk5 := cellV tt qk4
            have H10 := Lib.hid (And.intro ((tt.slice H9.out.1 (Nat.le_refl _) (by simp)).more tt.size) (And.intro (H9.out.2.1.trans tt (by simp)) ((tt.slice H9.out.2.2 (Nat.le_refl _) (by simp)).more tt.size)))
            clear tt qk4 SM H9
            have hif : (k ≠ 0 ∧ ((k : Int) == 0) = false) ∨ (k = 0 ∧ ((er == 0) = decide ((G.length : Int) ≤ 6))) := by
              by_cases h : k = 0
              · refine .inr ⟨h, ?_⟩
                rw [HI.out.2.2.2 h]
                by_cases h6 : G.length ≤ 6
                · rw [decide_eq_true h6, decide_eq_true (by omega)]
                · rw [decide_eq_false h6, decide_eq_false (by omega)]
              · exact .inl ⟨h, by simp; omega⟩
            by_cases her : er = 0
            · subst her
              have HEQ := Lib.hid (HI.out.1 rfl).1
              obtain ⟨sB, hsB⟩ : ∃ sB, sB = strOf l := ⟨_, rfl⟩
              have HSB := Lib.hid hsB
              have S5 : Turns [] z5 z5.drew := (Turns.refl _ _).drew
              clear hsB
              rcases hif with ⟨hk0, hk1⟩ | ⟨hk0, hk1⟩
              · go_upto_region 24 with fail
                have hS := S5
                refine reg_begin (fun W => Turns [] z5 W) (fun _ => True) 13 13 #[false, false, false, false, false, false, false, false, false, false, false, false, false] (by kernel_rfl) (by kernel_rfl) (by kernel_rfl) ?_
                refine reg_take 0 139 12 #[true, false, false, false, false, false, false, false, false, false, false, false, false] (by rfl) (v := ?_) rfl rfl (by kernel_rfl) (by kernel_rfl) (by kernel_rfl) (by kernel_rfl) (fun _ _ _ h => h) (by rfl) ?_ (Till.mk' hS trivial) ?_
                rotate_left
                · intro W hS; go_simp; all_goals with_reducible rfl
                try simp only [List.setIfInBounds_toArray, List.set_cons_succ, List.set_cons_zero]
                refine reg_take 1 140 11 #[true, true, false, false, false, false, false, false, false, false, false, false, false] (by rfl) (v := ?_) rfl rfl (by kernel_rfl) (by kernel_rfl) (by kernel_rfl) (by kernel_rfl) (fun _ _ _ h => h) (by rfl) ?_ (Till.mk' hS trivial) ?_
                rotate_left
                · intro W hS; go_simp; all_goals with_reducible rfl
                try simp only [List.setIfInBounds_toArray, List.set_cons_succ, List.set_cons_zero]
                refine reg_take 2 141 10 #[true, true, true, false, false, false, false, false, false, false, false, false, false] (by rfl) (v := ?_) rfl rfl (by kernel_rfl) (by kernel_rfl) (by kernel_rfl) (by kernel_rfl) (fun _ _ _ h => h) (by rfl) ?_ (Till.mk' hS trivial) ?_
                rotate_left
                · intro W hS; go_simp; all_goals with_reducible rfl
                try simp only [List.setIfInBounds_toArray, List.set_cons_succ, List.set_cons_zero]
                refine reg_take 3 142 9 #[true, true, true, true, false, false, false, false, false, false, false, false, false] (by rfl) (v := ?_) rfl rfl (by kernel_rfl) (by kernel_rfl) (by kernel_rfl) (by kernel_rfl) (fun _ _ _ h => h) (by rfl) ?_ (Till.mk' hS trivial) ?_
                rotate_left
                · intro W hS; go_simp; all_goals with_reducible rfl
                try simp only [List.setIfInBounds_toArray, List.set_cons_succ, List.set_cons_zero]
                refine reg_take 6 145 8 #[true, true, true, true, false, false, true, false, false, false, false, false, false] (by rfl) (v := ?_) rfl rfl (by kernel_rfl) (by kernel_rfl) (by kernel_rfl) (by kernel_rfl) (fun _ _ _ h => h) (by rfl) ?_ (Till.mk' hS trivial) ?_
                rotate_left
                · intro W hS; go_simp; all_goals with_reducible rfl
                try simp only [List.setIfInBounds_toArray, List.set_cons_succ, List.set_cons_zero]
                refine reg_take 7 146 7 #[true, true, true, true, false, false, true, true, false, false, false, false, false] (by rfl) (v := ?_) rfl rfl (by kernel_rfl) (by kernel_rfl) (by kernel_rfl) (by kernel_rfl) (fun _ _ _ h => h) (by rfl) ?_ (Till.mk' hS trivial) ?_
                rotate_left
                · intro W hS; go_simp; all_goals with_reducible rfl
                try simp only [List.setIfInBounds_toArray, List.set_cons_succ, List.set_cons_zero]
                refine reg_take 8 147 6 #[true, true, true, true, false, false, true, true, true, false, false, false, false] (by rfl) (v := ?_) rfl rfl (by kernel_rfl) (by kernel_rfl) (by kernel_rfl) (by kernel_rfl) (fun _ _ _ h => h) (by rfl) ?_ (Till.mk' hS trivial) ?_
                rotate_left
                · intro W hS; go_simp; all_goals with_reducible rfl
                try simp only [List.setIfInBounds_toArray, List.set_cons_succ, List.set_cons_zero]
                refine reg_take 9 148 5 #[true, true, true, true, false, false, true, true, true, true, false, false, false] (by rfl) (v := ?_) rfl rfl (by kernel_rfl) (by kernel_rfl) (by kernel_rfl) (by kernel_rfl) (fun _ _ _ h => h) (by rfl) ?_ (Till.mk' hS trivial) ?_
                rotate_left
                · intro W hS; have c2 := cellV hS qk5; go_simp; all_goals with_reducible rfl
                try simp only [List.setIfInBounds_toArray, List.set_cons_succ, List.set_cons_zero]
                refine reg_take 10 149 4 #[true, true, true, true, false, false, true, true, true, true, true, false, false] (by rfl) (v := ?_) rfl rfl (by kernel_rfl) (by kernel_rfl) (by kernel_rfl) (by kernel_rfl) (fun _ _ _ h => h) (by rfl) ?_ (Till.mk' hS trivial) ?_
                rotate_left
                · intro W hS; have hcv := conv_str (P := Try.prog) (dst := 9) (src := 29) (Turns.slice hS H10.out.2.2 (Nat.le_refl _) (by simp)) Try.underlying29 Try.underlying5 Try.underlying9; rw [← HSB.out] at hcv; go_simp; all_goals with_reducible rfl
                try simp only [List.setIfInBounds_toArray, List.set_cons_succ, List.set_cons_zero]
                refine reg_one 4 3 #[true, true, true, true, true, false, true, true, true, true, true, false, false] (by kernel_rfl) rfl (by rfl) (by kernel_rfl) (fun K hK => ?_)
                go_simp
                refine (RowBytes_any S B1 S.length k1 z5.heap.size _ HI.out.2.2.1 (hS.slice H10.out.1 (Nat.le_refl _) (by simp)) hS.size (by omega)).mono ?_
                rintro e z6 ⟨v6, rfl, m6⟩
                have hS := hS.trans m6.turns (by simp)
                have sv6 := m6.sl
                rw [HEQ.out] at sv6
                clear m6
                refine hK _ _ (Till.mk' hS trivial) ?_
                clear hK K
                try simp only [List.setIfInBounds_toArray, List.set_cons_succ, List.set_cons_zero]
                refine reg_one 5 2 #[true, true, true, true, true, true, true, true, true, true, true, false, false] (by kernel_rfl) rfl (by rfl) (by kernel_rfl) (fun K hK => ?_)
                have hcv := conv_str (P := Try.prog) (dst := 9) (src := 29) sv6 Try.underlying29 Try.underlying5 Try.underlying9
                rw [← HSB.out] at hcv
                go_simp
                clear hcv
                refine hK _ _ (Till.mk' hS trivial) ?_
                clear hK K
                try simp only [List.setIfInBounds_toArray, List.set_cons_succ, List.set_cons_zero]
                refine reg_take 11 150 1 #[true, true, true, true, true, true, true, true, true, true, true, true, false] (by rfl) (v := ?_) rfl rfl (by kernel_rfl) (by kernel_rfl) (by kernel_rfl) (by kernel_rfl) (fun _ _ _ h => h) (by rfl) ?_ (Till.mk' hS trivial) ?_
                rotate_left
                · intro W hS; go_simp; all_goals with_reducible rfl
                try simp only [List.setIfInBounds_toArray, List.set_cons_succ, List.set_cons_zero]
                refine reg_take 12 151 0 #[true, true, true, true, true, true, true, true, true, true, true, true, true] (by rfl) (v := ?_) rfl rfl (by kernel_rfl) (by kernel_rfl) (by kernel_rfl) (by kernel_rfl) (fun _ _ _ h => h) (by rfl) ?_ (Till.mk' hS trivial) ?_
                rotate_left
                · intro W hS; go_simp; all_goals with_reducible rfl
                try simp only [List.setIfInBounds_toArray, List.set_cons_succ, List.set_cons_zero]
                refine reg_done (by kernel_rfl) ?_ _
                have tfin := H10.out.2.1.trans hS (by simp)
                go_wp2_with fail
                go_roundw
                case rel => exact ⟨k + 1, by omega, by go_num, tfin⟩
                case measure => (simp [intOf] <;> omega)
              · subst hk0
                have hk2 : (G.length : Int) ≤ 6 := by simpa using hk1
                have hk3 : G.length ≤ 6 := by omega
                have hk4 : decide (G.length ≤ 6) = true := decide_eq_true hk3
                clear hk1
                go_upto_region 24 with fail
                have hS := S5
                refine reg_begin (fun W => Turns [] z5 W) (fun _ => True) 13 13 #[false, false, false, false, false, false, false, false, false, false, false, false, false] (by kernel_rfl) (by kernel_rfl) (by kernel_rfl) ?_
                refine reg_take 0 139 12 #[true, false, false, false, false, false, false, false, false, false, false, false, false] (by rfl) (v := ?_) rfl rfl (by kernel_rfl) (by kernel_rfl) (by kernel_rfl) (by kernel_rfl) (fun _ _ _ h => h) (by rfl) ?_ (Till.mk' hS trivial) ?_
                rotate_left
                · intro W hS; go_simp; all_goals with_reducible rfl
                try simp only [List.setIfInBounds_toArray, List.set_cons_succ, List.set_cons_zero]
                refine reg_take 1 140 11 #[true, true, false, false, false, false, false, false, false, false, false, false, false] (by rfl) (v := ?_) rfl rfl (by kernel_rfl) (by kernel_rfl) (by kernel_rfl) (by kernel_rfl) (fun _ _ _ h => h) (by rfl) ?_ (Till.mk' hS trivial) ?_
                rotate_left
                · intro W hS; go_simp; all_goals with_reducible rfl
                try simp only [List.setIfInBounds_toArray, List.set_cons_succ, List.set_cons_zero]
                refine reg_take 2 141 10 #[true, true, true, false, false, false, false, false, false, false, false, false, false] (by rfl) (v := ?_) rfl rfl (by kernel_rfl) (by kernel_rfl) (by kernel_rfl) (by kernel_rfl) (fun _ _ _ h => h) (by rfl) ?_ (Till.mk' hS trivial) ?_
                rotate_left
                · intro W hS; go_simp; all_goals with_reducible rfl
                try simp only [List.setIfInBounds_toArray, List.set_cons_succ, List.set_cons_zero]
                refine reg_take 3 142 9 #[true, true, true, true, false, false, false, false, false, false, false, false, false] (by rfl) (v := ?_) rfl rfl (by kernel_rfl) (by kernel_rfl) (by kernel_rfl) (by kernel_rfl) (fun _ _ _ h => h) (by rfl) ?_ (Till.mk' hS trivial) ?_
                rotate_left
                · intro W hS; go_simp; all_goals with_reducible rfl
                try simp only [List.setIfInBounds_toArray, List.set_cons_succ, List.set_cons_zero]
                refine reg_take 6 145 8 #[true, true, true, true, false, false, true, false, false, false, false, false, false] (by rfl) (v := ?_) rfl rfl (by kernel_rfl) (by kernel_rfl) (by kernel_rfl) (by kernel_rfl) (fun _ _ _ h => h) (by rfl) ?_ (Till.mk' hS trivial) ?_
                rotate_left
                · intro W hS; go_simp; all_goals with_reducible rfl
                try simp only [List.setIfInBounds_toArray, List.set_cons_succ, List.set_cons_zero]
                refine reg_take 7 146 7 #[true, true, true, true, false, false, true, true, false, false, false, false, false] (by rfl) (v := ?_) rfl rfl (by kernel_rfl) (by kernel_rfl) (by kernel_rfl) (by kernel_rfl) (fun _ _ _ h => h) (by rfl) ?_ (Till.mk' hS trivial) ?_
                rotate_left
                · intro W hS; go_simp; all_goals with_reducible rfl
                try simp only [List.setIfInBounds_toArray, List.set_cons_succ, List.set_cons_zero]
                refine reg_take 8 147 6 #[true, true, true, true, false, false, true, true, true, false, false, false, false] (by rfl) (v := ?_) rfl rfl (by kernel_rfl) (by kernel_rfl) (by kernel_rfl) (by kernel_rfl) (fun _ _ _ h => h) (by rfl) ?_ (Till.mk' hS trivial) ?_
                rotate_left
                · intro W hS; go_simp; all_goals with_reducible rfl
                try simp only [List.setIfInBounds_toArray, List.set_cons_succ, List.set_cons_zero]
                refine reg_take 9 148 5 #[true, true, true, true, false, false, true, true, true, true, false, false, false] (by rfl) (v := ?_) rfl rfl (by kernel_rfl) (by kernel_rfl) (by kernel_rfl) (by kernel_rfl) (fun _ _ _ h => h) (by rfl) ?_ (Till.mk' hS trivial) ?_
                rotate_left
                · intro W hS; have c2 := cellV hS qk5; go_simp; all_goals with_reducible rfl
                try simp only [List.setIfInBounds_toArray, List.set_cons_succ, List.set_cons_zero]
                refine reg_take 10 149 4 #[true, true, true, true, false, false, true, true, true, true, true, false, false] (by rfl) (v := ?_) rfl rfl (by kernel_rfl) (by kernel_rfl) (by kernel_rfl) (by kernel_rfl) (fun _ _ _ h => h) (by rfl) ?_ (Till.mk' hS trivial) ?_
                rotate_left
                · intro W hS; have hcv := conv_str (P := Try.prog) (dst := 9) (src := 29) (Turns.slice hS H10.out.2.2 (Nat.le_refl _) (by simp)) Try.underlying29 Try.underlying5 Try.underlying9; rw [← HSB.out] at hcv; go_simp; all_goals with_reducible rfl
                try simp only [List.setIfInBounds_toArray, List.set_cons_succ, List.set_cons_zero]
                refine reg_one 4 3 #[true, true, true, true, true, false, true, true, true, true, true, false, false] (by kernel_rfl) rfl (by rfl) (by kernel_rfl) (fun K hK => ?_)
                go_simp
                refine (RowBytes_any S B1 S.length k1 z5.heap.size _ HI.out.2.2.1 (hS.slice H10.out.1 (Nat.le_refl _) (by simp)) hS.size (by omega)).mono ?_
                rintro e z6 ⟨v6, rfl, m6⟩
                have hS := hS.trans m6.turns (by simp)
                have sv6 := m6.sl
                rw [HEQ.out] at sv6
                clear m6
                refine hK _ _ (Till.mk' hS trivial) ?_
                clear hK K
                try simp only [List.setIfInBounds_toArray, List.set_cons_succ, List.set_cons_zero]
                refine reg_one 5 2 #[true, true, true, true, true, true, true, true, true, true, true, false, false] (by kernel_rfl) rfl (by rfl) (by kernel_rfl) (fun K hK => ?_)
                have hcv := conv_str (P := Try.prog) (dst := 9) (src := 29) sv6 Try.underlying29 Try.underlying5 Try.underlying9
                rw [← HSB.out] at hcv
                go_simp
                clear hcv
                refine hK _ _ (Till.mk' hS trivial) ?_
                clear hK K
                try simp only [List.setIfInBounds_toArray, List.set_cons_succ, List.set_cons_zero]
                refine reg_take 11 150 1 #[true, true, true, true, true, true, true, true, true, true, true, true, false] (by rfl) (v := ?_) rfl rfl (by kernel_rfl) (by kernel_rfl) (by kernel_rfl) (by kernel_rfl) (fun _ _ _ h => h) (by rfl) ?_ (Till.mk' hS trivial) ?_
                rotate_left
                · intro W hS; go_simp; all_goals with_reducible rfl
                try simp only [List.setIfInBounds_toArray, List.set_cons_succ, List.set_cons_zero]
                refine reg_take 12 151 0 #[true, true, true, true, true, true, true, true, true, true, true, true, true] (by rfl) (v := ?_) rfl rfl (by kernel_rfl) (by kernel_rfl) (by kernel_rfl) (by kernel_rfl) (fun _ _ _ h => h) (by rfl) ?_ (Till.mk' hS trivial) ?_
                rotate_left
                · intro W hS; go_simp; all_goals with_reducible rfl
                try simp only [List.setIfInBounds_toArray, List.set_cons_succ, List.set_cons_zero]
                refine reg_done (by kernel_rfl) ?_ _
                have tfin := H10.out.2.1.trans hS (by simp)
                go_wp2_with fail
                go_roundw
                case rel => exact ⟨0 + 1, by omega, by go_num, tfin⟩
                case measure => (simp [intOf] <;> omega)
            · have he0 : (er == 0) = false := by simpa using her
              have S5 : Turns [] z5 z5.drew := (Turns.refl _ _).drew
              rcases hif with ⟨hk0, hk1⟩ | ⟨hk0, hk1⟩
              · go_upto_region 24 with fail
                have hS := S5
                refine reg_begin (fun W => Turns [] z5 W) (fun _ => True) 13 13 #[false, false, false, false, false, false, false, false, false, false, false, false, false] (by kernel_rfl) (by kernel_rfl) (by kernel_rfl) ?_
                refine reg_take 0 139 12 #[true, false, false, false, false, false, false, false, false, false, false, false, false] (by rfl) (v := ?_) rfl rfl (by kernel_rfl) (by kernel_rfl) (by kernel_rfl) (by kernel_rfl) (fun _ _ _ h => h) (by rfl) ?_ (Till.mk' hS trivial) ?_
                rotate_left
                · intro W hS; go_simp; all_goals with_reducible rfl
                try simp only [List.setIfInBounds_toArray, List.set_cons_succ, List.set_cons_zero]
                refine reg_take 1 140 11 #[true, true, false, false, false, false, false, false, false, false, false, false, false] (by rfl) (v := ?_) rfl rfl (by kernel_rfl) (by kernel_rfl) (by kernel_rfl) (by kernel_rfl) (fun _ _ _ h => h) (by rfl) ?_ (Till.mk' hS trivial) ?_
                rotate_left
                · intro W hS; go_simp; all_goals with_reducible rfl
                try simp only [List.setIfInBounds_toArray, List.set_cons_succ, List.set_cons_zero]
                refine reg_take 2 141 10 #[true, true, true, false, false, false, false, false, false, false, false, false, false] (by rfl) (v := ?_) rfl rfl (by kernel_rfl) (by kernel_rfl) (by kernel_rfl) (by kernel_rfl) (fun _ _ _ h => h) (by rfl) ?_ (Till.mk' hS trivial) ?_
                rotate_left
                · intro W hS; go_simp; all_goals with_reducible rfl
                try simp only [List.setIfInBounds_toArray, List.set_cons_succ, List.set_cons_zero]
                refine reg_skip 3 142 9 #[true, true, true, true, false, false, false, false, false, false, false, false, false] (by rfl) rfl rfl (by kernel_rfl) (by kernel_rfl) (by kernel_rfl) (by kernel_rfl) (fun _ _ _ h => h) (by rfl) (Till.mk' hS trivial) ?_
                try simp only [List.setIfInBounds_toArray, List.set_cons_succ, List.set_cons_zero]
                refine reg_skip 4 143 8 #[true, true, true, true, true, false, false, false, false, false, false, false, false] (by rfl) rfl rfl (by kernel_rfl) (by kernel_rfl) (by kernel_rfl) (by kernel_rfl) (fun _ _ _ h => h) (by rfl) (Till.mk' hS trivial) ?_
                try simp only [List.setIfInBounds_toArray, List.set_cons_succ, List.set_cons_zero]
                refine reg_skip 5 144 7 #[true, true, true, true, true, true, false, false, false, false, false, false, false] (by rfl) rfl rfl (by kernel_rfl) (by kernel_rfl) (by kernel_rfl) (by kernel_rfl) (fun _ _ _ h => h) (by rfl) (Till.mk' hS trivial) ?_
                try simp only [List.setIfInBounds_toArray, List.set_cons_succ, List.set_cons_zero]
                refine reg_skip 6 145 6 #[true, true, true, true, true, true, true, false, false, false, false, false, false] (by rfl) rfl rfl (by kernel_rfl) (by kernel_rfl) (by kernel_rfl) (by kernel_rfl) (fun _ _ _ h => h) (by rfl) (Till.mk' hS trivial) ?_
                try simp only [List.setIfInBounds_toArray, List.set_cons_succ, List.set_cons_zero]
                refine reg_skip 7 146 5 #[true, true, true, true, true, true, true, true, false, false, false, false, false] (by rfl) rfl rfl (by kernel_rfl) (by kernel_rfl) (by kernel_rfl) (by kernel_rfl) (fun _ _ _ h => h) (by rfl) (Till.mk' hS trivial) ?_
                try simp only [List.setIfInBounds_toArray, List.set_cons_succ, List.set_cons_zero]
                refine reg_skip 8 147 4 #[true, true, true, true, true, true, true, true, true, false, false, false, false] (by rfl) rfl rfl (by kernel_rfl) (by kernel_rfl) (by kernel_rfl) (by kernel_rfl) (fun _ _ _ h => h) (by rfl) (Till.mk' hS trivial) ?_
                try simp only [List.setIfInBounds_toArray, List.set_cons_succ, List.set_cons_zero]
                refine reg_skip 9 148 3 #[true, true, true, true, true, true, true, true, true, true, false, false, false] (by rfl) rfl rfl (by kernel_rfl) (by kernel_rfl) (by kernel_rfl) (by kernel_rfl) (fun _ _ _ h => h) (by rfl) (Till.mk' hS trivial) ?_
                try simp only [List.setIfInBounds_toArray, List.set_cons_succ, List.set_cons_zero]
                refine reg_skip 10 149 2 #[true, true, true, true, true, true, true, true, true, true, true, false, false] (by rfl) rfl rfl (by kernel_rfl) (by kernel_rfl) (by kernel_rfl) (by kernel_rfl) (fun _ _ _ h => h) (by rfl) (Till.mk' hS trivial) ?_
                try simp only [List.setIfInBounds_toArray, List.set_cons_succ, List.set_cons_zero]
                refine reg_skip 11 150 1 #[true, true, true, true, true, true, true, true, true, true, true, true, false] (by rfl) rfl rfl (by kernel_rfl) (by kernel_rfl) (by kernel_rfl) (by kernel_rfl) (fun _ _ _ h => h) (by rfl) (Till.mk' hS trivial) ?_
                try simp only [List.setIfInBounds_toArray, List.set_cons_succ, List.set_cons_zero]
                refine reg_take 12 151 0 #[true, true, true, true, true, true, true, true, true, true, true, true, true] (by rfl) (v := ?_) rfl rfl (by kernel_rfl) (by kernel_rfl) (by kernel_rfl) (by kernel_rfl) (fun _ _ _ h => h) (by rfl) ?_ (Till.mk' hS trivial) ?_
                rotate_left
                · intro W hS; go_simp; all_goals with_reducible rfl
                try simp only [List.setIfInBounds_toArray, List.set_cons_succ, List.set_cons_zero]
                refine reg_done (by kernel_rfl) ?_ _
                have tfin := H10.out.2.1.trans hS (by simp)
                go_wp2_with fail
                go_roundw
                case rel => exact ⟨k + 1, by omega, by go_num, tfin⟩
                case measure => (simp [intOf] <;> omega)
              · subst hk0
                rw [he0] at hk1
                have hk2 : ¬ (G.length : Int) ≤ 6 := by have := hk1.symm; simpa using this
                clear hk1
                go_upto_region 24 with fail
                have hS := S5
                refine reg_begin (fun W => Turns [] z5 W) (fun _ => True) 13 13 #[false, false, false, false, false, false, false, false, false, false, false, false, false] (by kernel_rfl) (by kernel_rfl) (by kernel_rfl) ?_
                refine reg_take 0 139 12 #[true, false, false, false, false, false, false, false, false, false, false, false, false] (by rfl) (v := ?_) rfl rfl (by kernel_rfl) (by kernel_rfl) (by kernel_rfl) (by kernel_rfl) (fun _ _ _ h => h) (by rfl) ?_ (Till.mk' hS trivial) ?_
                rotate_left
                · intro W hS; go_simp; all_goals with_reducible rfl
                try simp only [List.setIfInBounds_toArray, List.set_cons_succ, List.set_cons_zero]
                refine reg_take 1 140 11 #[true, true, false, false, false, false, false, false, false, false, false, false, false] (by rfl) (v := ?_) rfl rfl (by kernel_rfl) (by kernel_rfl) (by kernel_rfl) (by kernel_rfl) (fun _ _ _ h => h) (by rfl) ?_ (Till.mk' hS trivial) ?_
                rotate_left
                · intro W hS; go_simp; all_goals with_reducible rfl
                try simp only [List.setIfInBounds_toArray, List.set_cons_succ, List.set_cons_zero]
                refine reg_take 2 141 10 #[true, true, true, false, false, false, false, false, false, false, false, false, false] (by rfl) (v := ?_) rfl rfl (by kernel_rfl) (by kernel_rfl) (by kernel_rfl) (by kernel_rfl) (fun _ _ _ h => h) (by rfl) ?_ (Till.mk' hS trivial) ?_
                rotate_left
                · intro W hS; go_simp; all_goals with_reducible rfl
                try simp only [List.setIfInBounds_toArray, List.set_cons_succ, List.set_cons_zero]
                refine reg_skip 3 142 9 #[true, true, true, true, false, false, false, false, false, false, false, false, false] (by rfl) rfl rfl (by kernel_rfl) (by kernel_rfl) (by kernel_rfl) (by kernel_rfl) (fun _ _ _ h => h) (by rfl) (Till.mk' hS trivial) ?_
                try simp only [List.setIfInBounds_toArray, List.set_cons_succ, List.set_cons_zero]
                refine reg_skip 4 143 8 #[true, true, true, true, true, false, false, false, false, false, false, false, false] (by rfl) rfl rfl (by kernel_rfl) (by kernel_rfl) (by kernel_rfl) (by kernel_rfl) (fun _ _ _ h => h) (by rfl) (Till.mk' hS trivial) ?_
                try simp only [List.setIfInBounds_toArray, List.set_cons_succ, List.set_cons_zero]
                refine reg_skip 5 144 7 #[true, true, true, true, true, true, false, false, false, false, false, false, false] (by rfl) rfl rfl (by kernel_rfl) (by kernel_rfl) (by kernel_rfl) (by kernel_rfl) (fun _ _ _ h => h) (by rfl) (Till.mk' hS trivial) ?_
                try simp only [List.setIfInBounds_toArray, List.set_cons_succ, List.set_cons_zero]
                refine reg_skip 6 145 6 #[true, true, true, true, true, true, true, false, false, false, false, false, false] (by rfl) rfl rfl (by kernel_rfl) (by kernel_rfl) (by kernel_rfl) (by kernel_rfl) (fun _ _ _ h => h) (by rfl) (Till.mk' hS trivial) ?_
                try simp only [List.setIfInBounds_toArray, List.set_cons_succ, List.set_cons_zero]
                refine reg_skip 7 146 5 #[true, true, true, true, true, true, true, true, false, false, false, false, false] (by rfl) rfl rfl (by kernel_rfl) (by kernel_rfl) (by kernel_rfl) (by kernel_rfl) (fun _ _ _ h => h) (by rfl) (Till.mk' hS trivial) ?_
                try simp only [List.setIfInBounds_toArray, List.set_cons_succ, List.set_cons_zero]
                refine reg_skip 8 147 4 #[true, true, true, true, true, true, true, true, true, false, false, false, false] (by rfl) rfl rfl (by kernel_rfl) (by kernel_rfl) (by kernel_rfl) (by kernel_rfl) (fun _ _ _ h => h) (by rfl) (Till.mk' hS trivial) ?_
                try simp only [List.setIfInBounds_toArray, List.set_cons_succ, List.set_cons_zero]
                refine reg_skip 9 148 3 #[true, true, true, true, true, true, true, true, true, true, false, false, false] (by rfl) rfl rfl (by kernel_rfl) (by kernel_rfl) (by kernel_rfl) (by kernel_rfl) (fun _ _ _ h => h) (by rfl) (Till.mk' hS trivial) ?_
                try simp only [List.setIfInBounds_toArray, List.set_cons_succ, List.set_cons_zero]
                refine reg_skip 10 149 2 #[true, true, true, true, true, true, true, true, true, true, true, false, false] (by rfl) rfl rfl (by kernel_rfl) (by kernel_rfl) (by kernel_rfl) (by kernel_rfl) (fun _ _ _ h => h) (by rfl) (Till.mk' hS trivial) ?_
                try simp only [List.setIfInBounds_toArray, List.set_cons_succ, List.set_cons_zero]
                refine reg_skip 11 150 1 #[true, true, true, true, true, true, true, true, true, true, true, true, false] (by rfl) rfl rfl (by kernel_rfl) (by kernel_rfl) (by kernel_rfl) (by kernel_rfl) (fun _ _ _ h => h) (by rfl) (Till.mk' hS trivial) ?_
                try simp only [List.setIfInBounds_toArray, List.set_cons_succ, List.set_cons_zero]
                refine reg_take 12 151 0 #[true, true, true, true, true, true, true, true, true, true, true, true, true] (by rfl) (v := ?_) rfl rfl (by kernel_rfl) (by kernel_rfl) (by kernel_rfl) (by kernel_rfl) (fun _ _ _ h => h) (by rfl) ?_ (Till.mk' hS trivial) ?_
                rotate_left
                · intro W hS; go_simp; all_goals with_reducible rfl
                try simp only [List.setIfInBounds_toArray, List.set_cons_succ, List.set_cons_zero]
                refine reg_done (by kernel_rfl) ?_ _
                have tfin := H10.out.2.1.trans hS (by simp)
                go_wp2_with fail
                go_roundw
                case rel => exact ⟨0 + 1, by omega, by go_num, tfin⟩
                case measure => (simp [intOf] <;> omega)
          · have hk : k = 4 := by omega
            subst hk
            have bel := (HTZ.out.trans td (by simp)).below (Nat.le_refl _) (by simp)
            clear td
            go_wp2_with fail
            go_ret
            exact ⟨rfl, bel⟩
end Go.Proofs.Ytfehhiegnhplhaa
