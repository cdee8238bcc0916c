/- ShaTwice, walked. -/
import Derived.Test.YtibolcekhdapaaaSParts
import Derived.Test.YtibolcekhdapaaaHsG
namespace Go.Proofs.Ytibolcekhdapaaa
open Go.RowKit
set_option linter.unusedVariables false
set_option maxRecDepth 10000
set_option linter.unusedSimpArgs false
set_option linter.unnecessarySimpa false

def DownI (K : Nat) (i : Value) : Prop := i = .int .i64 (-1) ∨ ∃ j : Nat, j < K ∧ i = .int .i64 (j : Int)
theorem DownI.next {K j : Nat} (h : j < K) : DownI K (.int .i64 ((j : Int) - 1)) := by
  cases j with
  | zero => exact .inl rfl
  | succ j => exact .inr ⟨j, by omega, by rw [show ((j + 1 : Nat) : Int) - 1 = (j : Int) by omega]⟩
def sumsOf (ps : List (Value × List UInt8)) : List (List UInt8) := ps.map fun p => sha p.2
theorem sumsOf_all (ps : List (Value × List UInt8)) : ∀ x ∈ sumsOf ps, x.length = 32 := by
  intro x hx
  obtain ⟨p, _, rfl⟩ := List.mem_map.1 hx
  exact sha_len _
/-- What the first loop holds. -/
def TwW (w0 wr : World) (ps : List (Value × List UInt8)) (k : Nat) (v : Value) : Prop := ∃ A c, v = .slice A k c ∧ HMine w0 wr (.slice A k c) (sumsOf (ps.take k))
set_option maxRecDepth 100000 in
set_option maxHeartbeats 4000000 in
theorem ShaTwice_walk (A : Option Addr) (n c : Nat) (ps : List (Value × List UInt8)) (w : World) (hpn : ps.length = n) (hv : Sl w w.heap.size 1 (.slice A n c) n (ps.map (·.1))) (hp : ∀ p ∈ ps, Sl w w.heap.size 1 p.1 p.2.length (bvs p.2)) :
    Calls Try.prog 5 #[.slice A n c] w fun e w' => e = .returned (.bool true) ∧ Below w.heap.size w w' := by
  have KN := Lib.hid (known_any w)
  obtain ⟨_, _, hv0, hnc, hcm, _⟩ := hv.form
  injection hv0 with e1 e2 e3
  subst e3
  clear e1 e2
  have hni : (n : Int) ≤ 9223372036854775807 := by unfold maxLen at hcm; omega
  have HV := Lib.hid (And.intro hv (And.intro hp hpn))
  clear hv hp hpn hnc hcm
  go_enter Try.func5, Try.ntmps5
  go_wp2_with fail
  refine KN.out.mono ?_
  rintro e w1 ⟨rfl, t1⟩
  have HT1 := Lib.hid t1
  clear t1 KN
  go_upto_block 0 with fail
  go_cut [3] from 9 to 33 (fun v wx => ∃ k : Nat, k ≤ n ∧ k ≤ 10 ∧ TwW w1 wx ps k v ∧ ∀ p ∈ ps.take k, p.2.length ≤ 300)
  case first =>
    go_wp2_with fail
    go_loopw [3, 4] (fun v i wr => ∃ k : Nat, k ≤ n ∧ k ≤ 10 ∧ i = .int .i64 k ∧ TwW w1 wr ps k v ∧ ∀ p ∈ ps.take k, p.2.length ≤ 300) (fun _ i _ => 10 - (intOf i).toNat)
    case atStart => exact ⟨0, by omega, by omega, rfl, ⟨none, 0, rfl, HMine.nil (Turns.refl _ _)⟩, by simp⟩
    case round =>
      obtain ⟨k, hk, hk10, rfl, ⟨A3, c3, rfl, mk⟩, h300⟩ := hrel
      have TK := Lib.hid (HT1.out.trans mk.turns (by simp))
      by_cases hlt : k < n ∧ k < 10
      · obtain ⟨hlt, hlt10⟩ := hlt
        have hki : (k : Int) < (n : Int) := by omega
        have hki10 : (k : Int) < 10 := by omega
        obtain ⟨b, off, u, rfl, _, hu, cb⟩ := (HV.out.1.below_le (below_of TK.out) (Nat.le_refl _)).cell1 hlt
        have hkl : k < ps.length := by rw [HV.out.2.2]; exact hlt
        have hpk := HV.out.2.1 _ (List.getElem_mem hkl)
        obtain rfl : u = ps[k].1 := by rw [List.getElem?_map, List.getElem?_eq_getElem hkl] at hu; injection hu with hu; exact hu.symm
        have htk : ps.take (k + 1) = ps.take k ++ [ps[k]] := List.take_succ_eq_append_getElem hkl
        obtain ⟨p, hpe⟩ : ∃ p, p = ps[k] := ⟨_, rfl⟩
        rw [← hpe] at hpk cb htk
        obtain ⟨pv, pl⟩ := p
        obtain ⟨Ak, ck, hpv, _, _⟩ := hpk.form
        simp only at hpv hpk cb htk
        subst hpv
        have hpr := (hpk.below_le (below_of TK.out) (Nat.le_refl _)).more TK.out.size
        by_cases hh : 300 < pl.length
        · have h2i : (300 : Int) < (pl.length : Int) := by omega
          clear mk hk hk10 hlt hlt10 hu hkl hpk htk hpe hpr hh h300
          go_wp2_with fail
          go_ret
          exact ⟨rfl, below_of TK.out⟩
        · have h2i : ¬ (300 : Int) < (pl.length : Int) := by omega
          have SO := Sum_one _ pl wr hpr (by omega)
          have HSO := Lib.hid SO
          have h300' : ∀ p ∈ ps.take (k + 1), p.2.length ≤ 300 := by
            intro p hp
            rw [htk] at hp
            rcases List.mem_append.1 hp with hp | hp
            · exact h300 p hp
            · obtain rfl := List.mem_singleton.1 hp; show pl.length ≤ 300; omega
          have HSM := Lib.hid (show sumsOf (ps.take (k + 1)) = sumsOf (ps.take k) ++ [sha pl] by rw [htk]; simp [sumsOf])
          have HMK := Lib.hid mk
          have H300 := Lib.hid h300'
          have hsl := sha_len pl
          have hsx := Lib.hid hsl
          obtain ⟨S, hS⟩ : ∃ S, S = sha pl := ⟨_, rfl⟩
          rw [← hS] at HSO HSM hsx
          have HKK := Lib.hid (And.intro hlt hlt10)
          clear mk hk hk10 hlt hlt10 hu hkl hpk htk hpe hpr hh h300 h300' SO hsl hS
          go_wp2_with fail
          refine HSO.out.mono ?_
          rintro e w3 ⟨rfl, t3⟩
          have hlen : (sumsOf (ps.take k)).length = k := by unfold sumsOf; rw [List.length_map, List.length_take, HV.out.2.2]; have := HKK.out; omega
          obtain ⟨v9, w9, hr9, m9⟩ := hmine_push (HMK.out.on t3) (by rw [hlen]; have := HKK.out; omega) S hsx.out 33
          rw [← HSM.out] at m9
          have hlen9 : (sumsOf (ps.take (k + 1))).length = k + 1 := by unfold sumsOf; rw [List.length_map, List.length_take, HV.out.2.2]; have := HKK.out; omega
          obtain ⟨A9, c9, rfl, _⟩ := m9.len
          rw [hlen9] at m9 hr9
          have M9 := Lib.hid (show TwW w1 w9 ps (k + 1) (.slice A9 (k + 1) c9) from ⟨A9, c9, rfl, m9⟩)
          clear m9 hlen hlen9 t3
          go_wp2_with (first
            | (refine wpList_build_hash1 (o := ⟨some 32, _, _, _, _, _⟩) rfl S hsx.out (.tmp 31) rfl (by kernel_rfl) ?_)
            | (at_builtin; refine wpList_append_at rfl (.tmp 25) (.tmp 32) rfl hr9 rfl rfl ?_)
            | fail)
          clear hr9
          go_roundw
          case rel => exact ⟨k + 1, by have := HKK.out; omega, by have := HKK.out; omega, by go_num, M9.out, H300.out⟩
          case measure => (simp [intOf] <;> omega)
      · have HM := Lib.hid (show TwW w1 wr ps k (.slice A3 k c3) from ⟨A3, c3, rfl, mk⟩)
        have H300 := Lib.hid h300
        clear mk h300
        by_cases hkn : k < n
        · obtain rfl : k = 10 := by omega
          have hki : (10 : Int) < (n : Int) := by omega
          have HK := Lib.hid hk
          clear hlt hkn hk hk10
          go_wp2_with fail
          go_meet
          exact ⟨10, HK.out, by omega, HM.out, H300.out⟩
        · obtain rfl : k = n := by omega
          have HK := Lib.hid hk10
          clear hlt hkn hk hk10
          go_wp2_with fail
          go_meet
          exact ⟨k, by omega, HK.out, HM.out, H300.out⟩
  case rest =>
    obtain ⟨K, hKn, hK10, ⟨A3, c3, rfl, mk⟩, h300⟩ := hcut
    have TK := Lib.hid (HT1.out.trans mk.turns (by simp))
    have hKi : (K : Int) ≤ 10 := by omega
    have hKw : IntKind.i64.wrap ((K : Int) - 1) = (K : Int) - 1 := by rw [IntWalk.i64_in _ (by omega)]
    have HMK := Lib.hid mk
    have H300 := Lib.hid h300
    have HKN := Lib.hid (And.intro hKn hK10)
    have hD0 : DownI K (.int .i64 ((K : Int) - 1)) := by
      cases K with
      | zero => exact .inl rfl
      | succ j => exact .inr ⟨j, by omega, by rw [show ((j + 1 : Nat) : Int) - 1 = (j : Int) by omega]⟩
    have HD0 := Lib.hid hD0
    clear mk h300 hKn hK10 hD0
    go_wp2_with fail
    go_loopw [5] (fun i wr => DownI K i ∧ Turns [] wc wr) (fun i _ => (intOf i + 1).toNat)
    case atStart => exact ⟨HD0.out, Turns.refl _ _⟩
    case round =>
      obtain ⟨hd, tr⟩ := hrel
      have TR := Lib.hid tr
      clear tr
      rcases hd with rfl | ⟨j, hj, rfl⟩
      · go_wp2_with fail
        go_ret
        exact ⟨rfl, below_of (TK.out.trans TR.out (by simp))⟩
      · have hjK : (j : Int) < (K : Int) := by omega
        have hjn : (j : Int) < (n : Int) := by have := HKN.out; omega
        have hjw : IntKind.i64.wrap ((j : Int) - 1) = (j : Int) - 1 := by rw [IntWalk.i64_in _ (by omega)]
        have TA := Lib.hid (TK.out.trans TR.out (by simp))
        obtain ⟨b, off, u, rfl, _, hu, cb⟩ := (HV.out.1.below_le (below_of TA.out) (Nat.le_refl _)).cell1 (k := j) (by have := HKN.out; omega)
        have hkl : j < ps.length := by rw [HV.out.2.2]; have := HKN.out; omega
        have hpk := HV.out.2.1 _ (List.getElem_mem hkl)
        obtain rfl : u = ps[j].1 := by rw [List.getElem?_map, List.getElem?_eq_getElem hkl] at hu; injection hu with hu; exact hu.symm
        have hb300 : ps[j].2.length ≤ 300 := H300.out ps[j] (by
          rw [List.mem_take_iff_getElem]
          exact ⟨j, by have := HKN.out; rw [HV.out.2.2]; omega, rfl⟩)
        have hsj : (sumsOf (ps.take K))[j]? = some (sha ps[j].2) := by
          unfold sumsOf
          rw [List.getElem?_map, List.getElem?_take, if_pos hj, List.getElem?_eq_getElem hkl]; rfl
        obtain ⟨p, hpe⟩ : ∃ p, p = ps[j] := ⟨_, rfl⟩
        rw [← hpe] at hpk cb hb300 hsj
        obtain ⟨pv, pl⟩ := p
        obtain ⟨Ak, ck, hpv, _, _⟩ := hpk.form
        simp only at hpv hpk cb hb300 hsj
        subst hpv
        have hpr := (hpk.below_le (below_of TA.out) (Nat.le_refl _)).more TA.out.size
        have hlenK : (sumsOf (ps.take K)).length = K := by unfold sumsOf; rw [List.length_map, List.length_take, HV.out.2.2]; have := HKN.out; omega
        have hjl : j < (sumsOf (ps.take K)).length := by rw [hlenK]; exact hj
        obtain ⟨b3, o3, e3, _, r3⟩ := (HMK.out.hs.turns TR.out (Nat.le_refl _) (by simp)).at_ (i := j) hjl
        subst e3
        have he : (sumsOf (ps.take K))[j] = sha pl := by rw [List.getElem?_eq_getElem hjl] at hsj; injection hsj
        rw [he] at r3
        obtain ⟨S, hS⟩ : ∃ S, S = sha pl := ⟨_, rfl⟩
        rw [← hS] at r3
        have hs32 : S.length = 32 := by rw [hS]; exact sha_len _
        have hcv := conv_str (P := Try.prog) (src := 26) (dst := 9) (e := 5) hpr Try.underlying26 und_u8 Try.underlying9
        have HPR := Lib.hid hpr
        have HR3 := Lib.hid r3
        have HS := Lib.hid (And.intro hS.symm (And.intro hs32 hb300))
        have HJ := Lib.hid hj
        have eq1 := eqlS S hs32
        have hsz := Lib.hid (show (Try.prog.info? 24).map (·.size) = some (bvs S).length by rw [size_hash, bvs_length, hs32])
        obtain ⟨T, hT⟩ : ∃ T, T = strOf pl := ⟨_, rfl⟩
        rw [← hT] at hcv
        have HTT := Lib.hid hT
        clear hu hkl hpk hb300 hsj hpe hpr hlenK hjl he r3 hS hs32 hT hj
        go_upto_region 14 with fail
        clear hcv
        obtain ⟨Y, hY⟩ : ∃ q, q = wr.drew := ⟨_, rfl⟩
        have tWY : Turns [] wr Y := by rw [hY]; exact (Turns.refl _ _).drew
        have HY := Lib.hid hY
        have S0 : Turns [] Y Y := Turns.refl _ _
        have hpY := (tWY.slice HPR.out (Nat.le_refl _) (by simp)).more tWY.size
        have cY := cellL tWY cb (by simp)
        have HPY := Lib.hid (And.intro hpY (And.intro tWY (rangeT tWY HR3.out (by simp))))
        clear hY tWY hpY cb
        refine reg_begin (fun W => Turns [] Y W) (fun _ => True) 32 32 #[false, false, false, false, false, false, false, false, false, false, false, false, false, false, false, false, false, false, false, false, false, false, false, false, false, false, false, false, false, false, false, false] (by kernel_rfl) (by kernel_rfl) (by kernel_rfl) ?_
        rw [← HY.out]
        refine reg_take 0 46 31 #[true, false, false, false, false, false, false, false, false, false, false, false, false, false, false, false, false, false, false, false, false, false, false, false, false, false, false, false, false, false, false, false] (by rfl) (v := ?_) rfl rfl (by kernel_rfl) (by kernel_rfl) (by kernel_rfl) (by kernel_rfl) (fun _ _ _ h => h) (by rfl) ?_ (Till.mk' S0 trivial) ?_
        rotate_left
        · intro W hS; go_simp; all_goals with_reducible rfl
        try simp only [List.setIfInBounds_toArray, List.set_cons_succ, List.set_cons_zero]
        refine reg_take 1 47 30 #[true, true, false, false, false, false, false, false, false, false, false, false, false, false, false, false, false, false, false, false, false, false, false, false, false, false, false, false, false, false, false, false] (by rfl) (v := ?_) rfl rfl (by kernel_rfl) (by kernel_rfl) (by kernel_rfl) (by kernel_rfl) (fun _ _ _ h => h) (by rfl) ?_ (Till.mk' S0 trivial) ?_
        rotate_left
        · intro W hS; go_simp; all_goals with_reducible rfl
        try simp only [List.setIfInBounds_toArray, List.set_cons_succ, List.set_cons_zero]
        refine reg_take 2 48 29 #[true, true, true, false, false, false, false, false, false, false, false, false, false, false, false, false, false, false, false, false, false, false, false, false, false, false, false, false, false, false, false, false] (by rfl) (v := ?_) rfl rfl (by kernel_rfl) (by kernel_rfl) (by kernel_rfl) (by kernel_rfl) (fun _ _ _ h => h) (by rfl) ?_ (Till.mk' S0 trivial) ?_
        rotate_left
        · intro W hS; go_simp; all_goals with_reducible rfl
        try simp only [List.setIfInBounds_toArray, List.set_cons_succ, List.set_cons_zero]
        refine reg_take 3 49 28 #[true, true, true, true, false, false, false, false, false, false, false, false, false, false, false, false, false, false, false, false, false, false, false, false, false, false, false, false, false, false, false, false] (by rfl) (v := ?_) rfl rfl (by kernel_rfl) (by kernel_rfl) (by kernel_rfl) (by kernel_rfl) (fun _ _ _ h => h) (by rfl) ?_ (Till.mk' S0 trivial) ?_
        rotate_left
        · intro W hS; have c2 := cellL hS cY (by simp); go_simp; all_goals with_reducible rfl
        try simp only [List.setIfInBounds_toArray, List.set_cons_succ, List.set_cons_zero]
        refine reg_take 6 52 27 #[true, true, true, true, false, false, true, false, false, false, false, false, false, false, false, false, false, false, false, false, false, false, false, false, false, false, false, false, false, false, false, false] (by rfl) (v := ?_) rfl rfl (by kernel_rfl) (by kernel_rfl) (by kernel_rfl) (by kernel_rfl) (fun _ _ _ h => h) (by rfl) ?_ (Till.mk' S0 trivial) ?_
        rotate_left
        · intro W hS; go_simp; all_goals with_reducible rfl
        try simp only [List.setIfInBounds_toArray, List.set_cons_succ, List.set_cons_zero]
        refine reg_take 7 53 26 #[true, true, true, true, false, false, true, true, false, false, false, false, false, false, false, false, false, false, false, false, false, false, false, false, false, false, false, false, false, false, false, false] (by rfl) (v := ?_) rfl rfl (by kernel_rfl) (by kernel_rfl) (by kernel_rfl) (by kernel_rfl) (fun _ _ _ h => h) (by rfl) ?_ (Till.mk' S0 trivial) ?_
        rotate_left
        · intro W hS; go_simp; all_goals with_reducible rfl
        try simp only [List.setIfInBounds_toArray, List.set_cons_succ, List.set_cons_zero]
        refine reg_take 8 54 25 #[true, true, true, true, false, false, true, true, true, false, false, false, false, false, false, false, false, false, false, false, false, false, false, false, false, false, false, false, false, false, false, false] (by rfl) (v := ?_) rfl rfl (by kernel_rfl) (by kernel_rfl) (by kernel_rfl) (by kernel_rfl) (fun _ _ _ h => h) (by rfl) ?_ (Till.mk' S0 trivial) ?_
        rotate_left
        · intro W hS; go_simp; all_goals with_reducible rfl
        try simp only [List.setIfInBounds_toArray, List.set_cons_succ, List.set_cons_zero]
        refine reg_take_y 9 55 24 #[true, true, true, true, false, false, true, true, true, true, false, false, false, false, false, false, false, false, false, false, false, false, false, false, false, false, false, false, false, false, false, false] (by rfl) rfl rfl (by kernel_rfl) (by kernel_rfl) (by kernel_rfl) (by kernel_rfl) (fun _ _ _ h => h) (yieldsIf_load_mid (by rfl) _ _ rfl b3 (o3 + j * 32) (by rfl) (bvs S) _ (fun W hS => rangeT hS HPY.out.2.2 (by simp)) Try.underlying24 rfl hsz.out) (Till.mk' S0 trivial) ?_
        try simp only [List.setIfInBounds_toArray, List.set_cons_succ, List.set_cons_zero]
        refine reg_one 4 23 #[true, true, true, true, true, false, true, true, true, true, false, false, false, false, false, false, false, false, false, false, false, false, false, false, false, false, false, false, false, false, false, false] (by kernel_rfl) rfl (by rfl) (by kernel_rfl) (fun K hK => ?_)
        go_simp
        refine hK _ _ (Till.mk' (S0.alloc _) trivial) ?_
        clear hK K
        try simp only [List.setIfInBounds_toArray, List.set_cons_succ, List.set_cons_zero]
        refine reg_one 5 22 #[true, true, true, true, true, true, true, true, true, true, false, false, false, false, false, false, false, false, false, false, false, false, false, false, false, false, false, false, false, false, false, false] (by kernel_rfl) rfl (by rfl) (by kernel_rfl) (fun K hK => ?_)
        go_simp
        refine (Sum_one _ pl Y HPY.out.1 (by have := HS.out; omega)).mono ?_
        rintro e X5 ⟨rfl, D5⟩
        rw [HS.out.1]
        have S5 : Turns [] Y X5 := D5
        refine hK _ _ (Till.mk' S5 trivial) ?_
        clear hK K
        try simp only [List.setIfInBounds_toArray, List.set_cons_succ, List.set_cons_zero]
        refine reg_take 10 56 21 #[true, true, true, true, true, true, true, true, true, true, true, false, false, false, false, false, false, false, false, false, false, false, false, false, false, false, false, false, false, false, false, false] (by rfl) (v := ?_) rfl rfl (by kernel_rfl) (by kernel_rfl) (by kernel_rfl) (by kernel_rfl) (fun _ _ _ h => h) (by rfl) ?_ (Till.mk' S5 trivial) ?_
        rotate_left
        · intro W hS; go_simp; all_goals with_reducible rfl
        try simp only [List.setIfInBounds_toArray, List.set_cons_succ, List.set_cons_zero]
        refine reg_take 11 57 20 #[true, true, true, true, true, true, true, true, true, true, true, true, false, false, false, false, false, false, false, false, false, false, false, false, false, false, false, false, false, false, false, false] (by rfl) (v := ?_) rfl rfl (by kernel_rfl) (by kernel_rfl) (by kernel_rfl) (by kernel_rfl) (fun _ _ _ h => h) (by rfl) ?_ (Till.mk' S5 trivial) ?_
        rotate_left
        · intro W hS; go_simp; all_goals with_reducible rfl
        try simp only [List.setIfInBounds_toArray, List.set_cons_succ, List.set_cons_zero]
        refine reg_take 12 58 19 #[true, true, true, true, true, true, true, true, true, true, true, true, true, false, false, false, false, false, false, false, false, false, false, false, false, false, false, false, false, false, false, false] (by rfl) (v := ?_) rfl rfl (by kernel_rfl) (by kernel_rfl) (by kernel_rfl) (by kernel_rfl) (fun _ _ _ h => h) (by rfl) ?_ (Till.mk' S5 trivial) ?_
        rotate_left
        · intro W hS; go_simp; all_goals with_reducible rfl
        try simp only [List.setIfInBounds_toArray, List.set_cons_succ, List.set_cons_zero]
        refine reg_take 13 59 18 #[true, true, true, true, true, true, true, true, true, true, true, true, true, true, false, false, false, false, false, false, false, false, false, false, false, false, false, false, false, false, false, false] (by rfl) (v := ?_) rfl rfl (by kernel_rfl) (by kernel_rfl) (by kernel_rfl) (by kernel_rfl) (fun _ _ _ h => h) (by rfl) ?_ (Till.mk' S5 trivial) ?_
        rotate_left
        · intro W hS; go_simp; all_goals with_reducible rfl
        try simp only [List.setIfInBounds_toArray, List.set_cons_succ, List.set_cons_zero]
        refine reg_take 14 60 17 #[true, true, true, true, true, true, true, true, true, true, true, true, true, true, true, false, false, false, false, false, false, false, false, false, false, false, false, false, false, false, false, false] (by rfl) (v := ?_) rfl rfl (by kernel_rfl) (by kernel_rfl) (by kernel_rfl) (by kernel_rfl) (fun _ _ _ h => h) (by rfl) ?_ (Till.mk' S5 trivial) ?_
        rotate_left
        · intro W hS; go_simp; all_goals with_reducible rfl
        try simp only [List.setIfInBounds_toArray, List.set_cons_succ, List.set_cons_zero]
        refine reg_take_y 15 61 16 #[true, true, true, true, true, true, true, true, true, true, true, true, true, true, true, true, false, false, false, false, false, false, false, false, false, false, false, false, false, false, false, false] (by rfl) rfl rfl (by kernel_rfl) (by kernel_rfl) (by kernel_rfl) (by kernel_rfl) (fun _ _ _ h => h) (yieldsIf_load_mid (by rfl) _ _ rfl b3 (o3 + j * 32) (by rfl) (bvs S) _ (fun W hS => rangeT hS HPY.out.2.2 (by simp)) Try.underlying24 rfl hsz.out) (Till.mk' S5 trivial) ?_
        try simp only [List.setIfInBounds_toArray, List.set_cons_succ, List.set_cons_zero]
        refine reg_take 16 62 15 #[true, true, true, true, true, true, true, true, true, true, true, true, true, true, true, true, true, false, false, false, false, false, false, false, false, false, false, false, false, false, false, false] (by rfl) (v := ?_) rfl rfl (by kernel_rfl) (by kernel_rfl) (by kernel_rfl) (by kernel_rfl) (fun _ _ _ h => h) (by rfl) ?_ (Till.mk' S5 trivial) ?_
        rotate_left
        · intro W hS; go_simp; all_goals with_reducible rfl
        try simp only [List.setIfInBounds_toArray, List.set_cons_succ, List.set_cons_zero]
        refine reg_take 17 63 14 #[true, true, true, true, true, true, true, true, true, true, true, true, true, true, true, true, true, true, false, false, false, false, false, false, false, false, false, false, false, false, false, false] (by rfl) (v := ?_) rfl rfl (by kernel_rfl) (by kernel_rfl) (by kernel_rfl) (by kernel_rfl) (fun _ _ _ h => h) (by rfl) ?_ (Till.mk' S5 trivial) ?_
        rotate_left
        · intro W hS; go_simp; all_goals with_reducible rfl
        try simp only [List.setIfInBounds_toArray, List.set_cons_succ, List.set_cons_zero]
        refine reg_take 18 64 13 #[true, true, true, true, true, true, true, true, true, true, true, true, true, true, true, true, true, true, true, false, false, false, false, false, false, false, false, false, false, false, false, false] (by rfl) (v := ?_) rfl rfl (by kernel_rfl) (by kernel_rfl) (by kernel_rfl) (by kernel_rfl) (fun _ _ _ h => h) (by rfl) ?_ (Till.mk' S5 trivial) ?_
        rotate_left
        · intro W hS; go_simp; all_goals with_reducible rfl
        try simp only [List.setIfInBounds_toArray, List.set_cons_succ, List.set_cons_zero]
        refine reg_take 19 65 12 #[true, true, true, true, true, true, true, true, true, true, true, true, true, true, true, true, true, true, true, true, false, false, false, false, false, false, false, false, false, false, false, false] (by rfl) (v := ?_) rfl rfl (by kernel_rfl) (by kernel_rfl) (by kernel_rfl) (by kernel_rfl) (fun _ _ _ h => h) (by rfl) ?_ (Till.mk' S5 trivial) ?_
        rotate_left
        · intro W hS; have c2 := cellL hS cY (by simp); go_simp; all_goals with_reducible rfl
        try simp only [List.setIfInBounds_toArray, List.set_cons_succ, List.set_cons_zero]
        refine reg_one 20 11 #[true, true, true, true, true, true, true, true, true, true, true, true, true, true, true, true, true, true, true, true, true, false, false, false, false, false, false, false, false, false, false, false] (by kernel_rfl) rfl (by rfl) (by kernel_rfl) (fun K hK => ?_)
        go_simp
        refine (refSum_any Ak pl.length ck Y.heap.size pl X5 (S5.slice HPY.out.1 (Nat.le_refl _) (by simp)) S5.size (by have := HS.out; omega)).mono ?_
        rintro e X20 ⟨rfl, D20⟩
        rw [HS.out.1]
        have S20 : Turns [] Y X20 := S5.trans D20 (by simp)
        refine hK _ _ (Till.mk' S20 trivial) ?_
        clear hK K
        try simp only [List.setIfInBounds_toArray, List.set_cons_succ, List.set_cons_zero]
        refine reg_take 21 67 10 #[true, true, true, true, true, true, true, true, true, true, true, true, true, true, true, true, true, true, true, true, true, true, false, false, false, false, false, false, false, false, false, false] (by rfl) (v := ?_) rfl rfl (by kernel_rfl) (by kernel_rfl) (by kernel_rfl) (by kernel_rfl) (fun _ _ _ h => h) (by rfl) ?_ (Till.mk' S20 trivial) ?_
        rotate_left
        · intro W hS; go_simp; all_goals with_reducible rfl
        try simp only [List.setIfInBounds_toArray, List.set_cons_succ, List.set_cons_zero]
        refine reg_take 22 68 9 #[true, true, true, true, true, true, true, true, true, true, true, true, true, true, true, true, true, true, true, true, true, true, true, false, false, false, false, false, false, false, false, false] (by rfl) (v := ?_) rfl rfl (by kernel_rfl) (by kernel_rfl) (by kernel_rfl) (by kernel_rfl) (fun _ _ _ h => h) (by rfl) ?_ (Till.mk' S20 trivial) ?_
        rotate_left
        · intro W hS; go_simp; all_goals with_reducible rfl
        try simp only [List.setIfInBounds_toArray, List.set_cons_succ, List.set_cons_zero]
        refine reg_take 23 69 8 #[true, true, true, true, true, true, true, true, true, true, true, true, true, true, true, true, true, true, true, true, true, true, true, true, false, false, false, false, false, false, false, false] (by rfl) (v := ?_) rfl rfl (by kernel_rfl) (by kernel_rfl) (by kernel_rfl) (by kernel_rfl) (fun _ _ _ h => h) (by rfl) ?_ (Till.mk' S20 trivial) ?_
        rotate_left
        · intro W hS; go_simp; all_goals with_reducible rfl
        try simp only [List.setIfInBounds_toArray, List.set_cons_succ, List.set_cons_zero]
        refine reg_take 24 70 7 #[true, true, true, true, true, true, true, true, true, true, true, true, true, true, true, true, true, true, true, true, true, true, true, true, true, false, false, false, false, false, false, false] (by rfl) (v := ?_) rfl rfl (by kernel_rfl) (by kernel_rfl) (by kernel_rfl) (by kernel_rfl) (fun _ _ _ h => h) (by rfl) ?_ (Till.mk' S20 trivial) ?_
        rotate_left
        · intro W hS; go_simp; all_goals with_reducible rfl
        try simp only [List.setIfInBounds_toArray, List.set_cons_succ, List.set_cons_zero]
        refine reg_take 25 71 6 #[true, true, true, true, true, true, true, true, true, true, true, true, true, true, true, true, true, true, true, true, true, true, true, true, true, true, false, false, false, false, false, false] (by rfl) (v := ?_) rfl rfl (by kernel_rfl) (by kernel_rfl) (by kernel_rfl) (by kernel_rfl) (fun _ _ _ h => h) (by rfl) ?_ (Till.mk' S20 trivial) ?_
        rotate_left
        · intro W hS; go_simp; all_goals with_reducible rfl
        try simp only [List.setIfInBounds_toArray, List.set_cons_succ, List.set_cons_zero]
        refine reg_take 26 72 5 #[true, true, true, true, true, true, true, true, true, true, true, true, true, true, true, true, true, true, true, true, true, true, true, true, true, true, true, false, false, false, false, false] (by rfl) (v := ?_) rfl rfl (by kernel_rfl) (by kernel_rfl) (by kernel_rfl) (by kernel_rfl) (fun _ _ _ h => h) (by rfl) ?_ (Till.mk' S20 trivial) ?_
        rotate_left
        · intro W hS; go_simp; all_goals with_reducible rfl
        try simp only [List.setIfInBounds_toArray, List.set_cons_succ, List.set_cons_zero]
        refine reg_take 27 73 4 #[true, true, true, true, true, true, true, true, true, true, true, true, true, true, true, true, true, true, true, true, true, true, true, true, true, true, true, true, false, false, false, false] (by rfl) (v := ?_) rfl rfl (by kernel_rfl) (by kernel_rfl) (by kernel_rfl) (by kernel_rfl) (fun _ _ _ h => h) (by rfl) ?_ (Till.mk' S20 trivial) ?_
        rotate_left
        · intro W hS; have c2 := cellL hS cY (by simp); go_simp; all_goals with_reducible rfl
        try simp only [List.setIfInBounds_toArray, List.set_cons_succ, List.set_cons_zero]
        refine reg_take 28 74 3 #[true, true, true, true, true, true, true, true, true, true, true, true, true, true, true, true, true, true, true, true, true, true, true, true, true, true, true, true, true, false, false, false] (by rfl) (v := ?_) rfl rfl (by kernel_rfl) (by kernel_rfl) (by kernel_rfl) (by kernel_rfl) (fun _ _ _ h => h) (by rfl) ?_ (Till.mk' S20 trivial) ?_
        rotate_left
        · intro W hS; have hc2 := conv_str (P := Try.prog) (src := 26) (dst := 9) (e := 5) (Turns.slice hS HPY.out.1 (Nat.le_refl _) (by simp)) Try.underlying26 und_u8 Try.underlying9; rw [← HTT.out] at hc2; go_simp; all_goals with_reducible rfl
        try simp only [List.setIfInBounds_toArray, List.set_cons_succ, List.set_cons_zero]
        refine reg_take 29 75 2 #[true, true, true, true, true, true, true, true, true, true, true, true, true, true, true, true, true, true, true, true, true, true, true, true, true, true, true, true, true, true, false, false] (by rfl) (v := ?_) rfl rfl (by kernel_rfl) (by kernel_rfl) (by kernel_rfl) (by kernel_rfl) (fun _ _ _ h => h) (by rfl) ?_ (Till.mk' S20 trivial) ?_
        rotate_left
        · intro W hS; go_simp; all_goals with_reducible rfl
        try simp only [List.setIfInBounds_toArray, List.set_cons_succ, List.set_cons_zero]
        refine reg_take 30 76 1 #[true, true, true, true, true, true, true, true, true, true, true, true, true, true, true, true, true, true, true, true, true, true, true, true, true, true, true, true, true, true, true, false] (by rfl) (v := ?_) rfl rfl (by kernel_rfl) (by kernel_rfl) (by kernel_rfl) (by kernel_rfl) (fun _ _ _ h => h) (by rfl) ?_ (Till.mk' S20 trivial) ?_
        rotate_left
        · intro W hS; go_simp; all_goals with_reducible rfl
        try simp only [List.setIfInBounds_toArray, List.set_cons_succ, List.set_cons_zero]
        refine reg_take 31 77 0 #[true, true, true, true, true, true, true, true, true, true, true, true, true, true, true, true, true, true, true, true, true, true, true, true, true, true, true, true, true, true, true, true] (by rfl) (v := ?_) rfl rfl (by kernel_rfl) (by kernel_rfl) (by kernel_rfl) (by kernel_rfl) (fun _ _ _ h => h) (by rfl) ?_ (Till.mk' S20 trivial) ?_
        rotate_left
        · intro W hS; go_simp; all_goals with_reducible rfl
        try simp only [List.setIfInBounds_toArray, List.set_cons_succ, List.set_cons_zero]
        refine reg_done (by kernel_rfl) ?_ _
        have T9 := Lib.hid S20
        clear S20 D20 S5 D5
        go_wp2_with fail
        go_roundw
        case rel => exact ⟨DownI.next HJ.out, TR.out.trans (HPY.out.2.1.trans T9.out (by simp)) (by simp)⟩
        case measure => (simp [intOf] <;> omega)
end Go.Proofs.Ytibolcekhdapaaa
