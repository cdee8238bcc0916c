/- Bytes are cut to records: code's cut, walked. -/
import Derived.Test.YtdhbaepmbgoobaaWCut
namespace Go.Proofs.Ytdhbaepmbgoobaa
open Go.RowKit
set_option linter.unusedVariables false
set_option maxRecDepth 10000
set_option linter.unusedSimpArgs false
set_option linter.unnecessarySimpa false

theorem own_moreW {w : World} {base base' : Nat} {e : TypeId} {size n : Nat} {v : Value} {xs : List Value} (h : w.ownsRow base' e size v n xs) (hb : base ≤ base') : w.ownsRow base e size v n xs := own_more h hb
theorem Sl.off {L : List Nat} {w w' : World} {B n size : Nat} {v : Value} {xs : List Value} (h : Sl w B size v n xs) (t : Turns L w w') (hB : B ≤ w.heap.size) (hL : ∀ x ∈ L, B ≤ x) : Sl w' B size v n xs :=
  h.keep fun p hp => World.cell?_of_block (t.block p.block (by omega) (fun hm => by have := hL _ hm; omega))
theorem leInt_bd8 (l : List UInt8) : -9223372036854775808 ≤ recLen l ∧ recLen l ≤ 9223372036854775807 := by
  unfold recLen leInt
  rw [IntKind.wrap_i64]
  omega
def lenV : Value → Nat
  | .slice _ n _ => n
  | _ => 0
theorem own_formV {w : World} {base : Nat} {e : TypeId} {size n : Nat} {v : Value} {xs : List Value} (h : w.ownsRow base e size v n xs) : ∃ A c, v = .slice A n c := by
  rcases h.2 with ⟨rfl, rfl⟩ | ⟨g, cap, cur, rfl, _⟩
  · exact ⟨_, _, rfl⟩
  · exact ⟨_, _, rfl⟩
set_option maxHeartbeats 400000 in
theorem CloneRows_any (v : Value) (n : Nat) (bs : List Value) (h1 : ∀ u ∈ bs, u.oneCell' = true) (w : World) (h : Sl w w.heap.size 1 v n bs) (hn : n ≤ 10000000) :
    Calls Try.prog 68 #[v] w fun e w' => ∃ v', e = .returned v' ∧ w'.ownsRow w.heap.size 34 1 v' n bs ∧ Turns [] w w' := by
  have h' := h
  obtain ⟨hl, A, c, rfl, hnc, hcm, hA, hrd⟩ := h
  have hnil := fun w => Lib.run_eql_slice_nil (P := Try.prog) w 30 34 A n c 0 0 Try.underlying30
  rcases A with _ | ad
  · have := hA rfl
    subst this
    have : n = 0 := by omega
    subst this
    have : bs = [] := List.eq_nil_of_length_eq_zero (by omega)
    subst this
    go_enter Try.func68, Try.ntmps68
    go_wp2_with fail
    go_ret
    exact ⟨_, rfl, World.ownsRow_nil _ _ _ _, Turns.refl _ _⟩
  · have hown : (w.alloc (.cells #[] 34)).ownsRow w.heap.size 34 1 (.slice (some ⟨w.heap.size, 0, none⟩) 0 0) 0 [] :=
      World.ownsRow_made w #[] 0 (Nat.le_refl _) (Nat.zero_le _) (by simp)
    go_enter Try.func68, Try.ntmps68
    go_wp2_with (at_builtin; refine wpList_append _ rfl (.tmp 5) (.tmp 6) rfl (run_append_rd _ T8v _ hown (h'.alloc (Nat.le_refl _) _) h1 (by simp only [maxLen]; omega) (by omega) (by simp)) rfl rfl ?_; intro v' w' ap)
    go_ret
    exact ⟨v', rfl, by simpa using ap.own, Turns.of_below (L := []) (ap.below ((Below.refl _ _).alloc (Nat.le_refl _) _) hown (Nat.le_refl _) (by simp))⟩
theorem recs_clone {B0 : Nat} {w w' : World} {v' : Value} {ls : List (List UInt8)} {vs : List Value} (h1 : vs.length = ls.length) (h3 : ∀ (j : Nat) (h : j < ls.length), ∃ u, vs[j]? = some u ∧ Sl w w.heap.size 1 u ls[j].length (bvs ls[j]) ∧ ∀ b, u.ownBlock = some b → B0 ≤ b) (hB : B0 ≤ w.heap.size) (ho : w'.ownsRow w.heap.size 34 1 v' ls.length vs) (t : Turns [] w w') : SlsF B0 w' v' ls.length ls := by
  refine ⟨vs, rfl, Sl.of_own ho, fun b hb => Nat.le_trans hB (ho.lt b hb).1, fun j u hu => ?_⟩
  have hj : j < ls.length := by have := (List.getElem?_eq_some_iff.1 hu).1; omega
  obtain ⟨u', hu', hs, hb⟩ := h3 j hj
  rw [hu] at hu'
  injection hu' with hu'
  subst hu'
  exact ⟨ls[j], List.getElem?_eq_getElem hj, (t.slice hs (Nat.le_refl _) (by simp)).more t.size, hb⟩

set_option maxRecDepth 100000 in
set_option maxHeartbeats 8000000 in
theorem cut_any (v : Value) (bs : List UInt8) (m : Int) (w : World) (hs : Sl w w.heap.size 1 v bs.length (bvs bs)) (hm0 : 0 ≤ m) (hm1 : m ≤ 9223372036854775807) (hl : bs.length ≤ 8000000) :
    Calls Try.prog 47 #[v, .int .i64 m] w fun e w' => ∃ A n c, e = .returned (.tuple #[.slice A n c, .bool (decide ((cutL m.toNat bs).2 = []))]) ∧ SlsF w.heap.size w' (.slice A n c) n (cutL m.toNat bs).1 ∧ Turns [] w w' := by
  obtain ⟨A0, c0, rfl⟩ : ∃ A c, v = .slice A bs.length c := by obtain ⟨_, A, c, hv, _⟩ := hs; exact ⟨A, c, hv⟩
  obtain ⟨res, hres⟩ : ∃ r, r = cutL m.toNat bs := ⟨_, rfl⟩
  rw [← hres]
  have HS := Lib.hid hs
  have HRES := Lib.hid hres
  clear hs hres
  go_enter Try.func47, Try.ntmps47
  go_wp2_with fail
  go_loopw [0, 6] (fun b out wr => ∃ (pre : List (List UInt8)) (bc : List UInt8) (Ab : Option Addr) (cb : Nat) (Ao : Option Addr) (co : Nat), b = .slice Ab bc.length cb ∧ out = .slice Ao pre.length co ∧ Sl wr w.heap.size 1 (.slice Ab bc.length cb) bc.length (bvs bc) ∧ RecsOff wr w.heap.size (.slice Ao pre.length co) pre ∧
      (pre.length : Int) ≤ m ∧ res = (pre ++ (cutL (m.toNat - pre.length) bc).1, (cutL (m.toNat - pre.length) bc).2) ∧ bc.length ≤ bs.length ∧ pre.length + bc.length ≤ bs.length ∧ Turns [] w wr) (fun b _ _ => lenV b)
  case atStart => exact ⟨[], bs, A0, c0, none, 0, rfl, rfl, HS.out, RecsOff.nil, by simpa using hm0, by simpa using HRES.out, Nat.le_refl _, by simp, Turns.refl _ _⟩
  case round =>
    obtain ⟨pre, bc, Ab, cb, Ao, co, rfl, rfl, hb, ho, hpm, hfin, hbl, hpb, tx⟩ := hrel
    have HB := Lib.hid (And.intro hb (And.intro ho (And.intro hfin tx)))
    have hcb : bc.length ≤ cb ∧ cb ≤ 9223372036854775807 := by
      obtain ⟨_, _, _, ee, h1, h2, _⟩ := hb
      injection ee with _ _ e3
      subst e3
      unfold maxLen at h2
      omega
    obtain ⟨Y, hY⟩ : ∃ Y, Y = wr := ⟨_, rfl⟩
    subst hY
    have END : (m.toNat = pre.length ∨ recOk bc = false) → res = (pre, bc) := by
      rintro (h | h)
      · rw [hfin, h, Nat.sub_self]; simp [cutL]
      · rw [hfin, cutL_stop _ _ h]; simp
    replace END := Lib.hid END
    have hq : ((bc.length : Int) == 0) = decide (bc = []) := by
      rw [Bool.eq_iff_iff]
      simp
    clear hb ho hfin
    by_cases h8 : 8 ≤ bc.length
    · have x8 : (8 : Int) ≤ (bc.length : Int) := by omega
      have d8 : decide (8 ≤ bc.length) = true := decide_eq_true h8
      by_cases hpm' : (pre.length : Int) < m
      · have hs8 : Sl Y Y.heap.size 1 (.slice Ab 8 cb) (bc.take 8).length (bvs (bc.take 8)) := by
          have h := (HB.out.1.to h8).more tx.size
          rw [bvs_take] at h
          rw [List.length_take, Nat.min_eq_left h8]
          exact h
        have NW := Lib.hid (New_any _ (bc.take 8) Y hs8 (by rw [List.length_take]; omega))
        have r8 := run_to Ab bc.length cb 8 h8 hcb.1
        clear hs8
        go_wp2_with fail
        refine NW.out.mono ?_
        rintro e y1 ⟨g, rfl, hg, R0, bel⟩
        have RI := Lib.hid (RInt8_any g g _ y1 R0)
        have T1 := Lib.hid (Turns.of_below (L := []) bel)
        have hri : (RS.readInt ⟨bc.take 8, 0⟩).1 = recLen bc := by
          unfold RS.readInt RS.number
          rw [ok_take _ 8 rfl (by rw [List.length_take]; omega)]
          show leInt ((bc.take 8).take 8) = _
          rw [List.take_take]; rfl
        rw [hri] at RI
        clear NW bel R0 hri r8
        go_wp2_with fail
        refine RI.out.mono ?_
        rintro e y2 ⟨rfl, dd⟩
        have t2 : Turns [] Y y2 := T1.out.trans (L' := [g]) (Turns.of_grown dd.only (by intro k hk; injection hk with hk; simp [hk])) (by intro x hx; simp at hx; exact .inr (by omega))
        have hlo := leInt_bd8 bc
        have hok := recOk_iff bc
        obtain ⟨n, hn⟩ : ∃ n, n = recLen bc := ⟨_, rfl⟩
        rw [← hn] at hlo hok ⊢
        have T2 := Lib.hid t2
        have HNN := Lib.hid hn
        clear dd t2 RI hn T1
        by_cases hn0 : n < 0
        · have hE := Lib.hid (END.out (.inr (by cases h : recOk bc; rfl; exact absurd (hok.1 h).2.1 (by omega))))
          clear hok
          obtain ⟨vs, hv1, hv2, hv3⟩ := (HB.out.2.1.on T2.out).ex
          have CL := Lib.hid (CloneRows_any _ pre.length vs (fun u hu => by
            obtain ⟨j, hj, rfl⟩ := List.mem_iff_getElem.1 hu
            obtain ⟨u', hu', hs, _⟩ := hv3 j (by omega)
            rw [List.getElem?_eq_getElem hj] at hu'
            injection hu' with hu'
            rw [hu']
            obtain ⟨_, _, _, hv, _⟩ := hs
            rw [hv]; rfl) y2 (Sl.of_own hv2) (by omega))
          have HV := Lib.hid (And.intro hv1 (fun (j : Nat) (h : j < pre.length) => (hv3 j h).imp fun u hu => And.intro hu.1 (And.intro hu.2.1 (fun b hb => (hu.2.2.2 b hb).1))))
          clear hv1 hv2 hv3
          go_wp2_with fail
          refine CL.out.mono ?_
          rintro e y9 ⟨v9, rfl, o9, t9⟩
          obtain ⟨A9, c9, rfl⟩ := own_formV o9
          have HF := Lib.hid (And.intro (recs_clone HV.out.1 HV.out.2 (Nat.le_trans tx.size T2.out.size) o9 t9) ((HB.out.2.2.2.trans T2.out (by simp)).trans t9 (by simp)))
          clear o9 t9 CL
          go_wp2_with fail
          go_ret2
          rw [hE.out]
          exact ⟨A9, pre.length, c9, rfl, HF.out.1, HF.out.2⟩
        by_cases hn1 : (bc.length : Int) - 8 < n
        · have hE := Lib.hid (END.out (.inr (by cases h : recOk bc; rfl; exact absurd (hok.1 h).2.2 (by omega))))
          clear hok
          obtain ⟨vs, hv1, hv2, hv3⟩ := (HB.out.2.1.on T2.out).ex
          have CL := Lib.hid (CloneRows_any _ pre.length vs (fun u hu => by
            obtain ⟨j, hj, rfl⟩ := List.mem_iff_getElem.1 hu
            obtain ⟨u', hu', hs, _⟩ := hv3 j (by omega)
            rw [List.getElem?_eq_getElem hj] at hu'
            injection hu' with hu'
            rw [hu']
            obtain ⟨_, _, _, hv, _⟩ := hs
            rw [hv]; rfl) y2 (Sl.of_own hv2) (by omega))
          have HV := Lib.hid (And.intro hv1 (fun (j : Nat) (h : j < pre.length) => (hv3 j h).imp fun u hu => And.intro hu.1 (And.intro hu.2.1 (fun b hb => (hu.2.2.2 b hb).1))))
          clear hv1 hv2 hv3
          go_wp2_with fail
          refine CL.out.mono ?_
          rintro e y9 ⟨v9, rfl, o9, t9⟩
          obtain ⟨A9, c9, rfl⟩ := own_formV o9
          have HF := Lib.hid (And.intro (recs_clone HV.out.1 HV.out.2 (Nat.le_trans tx.size T2.out.size) o9 t9) ((HB.out.2.2.2.trans T2.out (by simp)).trans t9 (by simp)))
          clear o9 t9 CL
          go_wp2_with fail
          go_ret2
          rw [hE.out]
          exact ⟨A9, pre.length, c9, rfl, HF.out.1, HF.out.2⟩
        · have hrk := hok.2 ⟨h8, by omega, by omega⟩
          obtain ⟨k, rfl⟩ : ∃ k : Nat, n = k := ⟨n.toNat, by omega⟩
          have hk8 : 8 + k ≤ bc.length := by omega
          have hof : recOf bc = (bc.drop 8).take k := by unfold recOf; rw [← HNN.out]; simp
          have hrt : recTail bc = bc.drop (8 + k) := by unfold recTail; rw [← HNN.out]; simp
          have hofl : (recOf bc).length = k := by rw [hof, List.length_take, List.length_drop]; omega
          have hmid0 : Sl Y w.heap.size 1 (.slice (adr Ab cb 8) k (cb - 8)) k (bvs (recOf bc)) := by
            have h1 := sl_off HB.out.1 h8
            have h2 := h1.to (show k ≤ bc.length - 8 by omega)
            rw [bvs_drop, bvs_take, ← hof] at h2
            exact h2
          have htl0 : Sl Y w.heap.size 1 (.slice (adr Ab cb (8 + k)) (recTail bc).length (cb - (8 + k))) (recTail bc).length (bvs (recTail bc)) := by
            have h1 := sl_off HB.out.1 hk8
            rw [bvs_drop, ← hrt] at h1
            have e : bc.length - (8 + k) = (recTail bc).length := by rw [hrt, List.length_drop]
            rw [e] at h1
            exact h1
          have hmid := (T2.out.slice hmid0 tx.size (by simp)).more (Nat.le_trans tx.size T2.out.size)
          have hmid' : Sl y2 y2.heap.size 1 (.slice (adr Ab cb 8) k (cb - 8)) (recOf bc).length (bvs (recOf bc)) := by rw [hofl]; exact hmid
          have CL := Clone_any _ _ _ (bvs_one _) y2 hmid' (by omega)
          replace CL := Lib.hid CL
          have rm : ∀ w, (Instr.sliceAt 34 (.slice Ab bc.length cb) (some (.int .i64 8)) (some (.int .i64 (8 + (k : Int)))) none).run Try.prog w = .ok (.slice (adr Ab cb 8) k (cb - 8)) w := fun w => run_mid Ab bc.length cb 8 k hk8 hcb.1 w
          have ro : ∀ w, (Instr.sliceAt 34 (.slice Ab bc.length cb) (some (.int .i64 (8 + (k : Int)))) none none).run Try.prog w = .ok (.slice (adr Ab cb (8 + k)) (bc.length - (8 + k)) (cb - (8 + k))) w := fun w => run_off Ab bc.length cb (8 + k) hk8 hcb.1 w
          have etl : bc.length - (8 + k) = (recTail bc).length := by rw [hrt, List.length_drop]
          rw [etl] at ro
          have hstep : cutL (m.toNat - pre.length) bc = (recOf bc :: (cutL (m.toNat - (pre.length + 1)) (recTail bc)).1, (cutL (m.toNat - (pre.length + 1)) (recTail bc)).2) := by
            obtain ⟨d, hd⟩ : ∃ d, m.toNat - pre.length = d + 1 := ⟨m.toNat - pre.length - 1, by omega⟩
            rw [hd, cutL, if_pos hrk, show m.toNat - (pre.length + 1) = d by omega]
          have htb := recTail_len bc hrk
          have HTL := Lib.hid (And.intro htl0 (And.intro hstep htb))
          clear hmid hmid' hmid0 htl0 hof hrt hofl hstep htb hrk etl
          go_wp2_with fail
          refine CL.out.mono ?_
          rintro e y3 ⟨x3, rfl, o3, bel3⟩
          have t3 := Turns.of_below (L := []) bel3
          have t03 := T2.out.trans t3 (by simp)
          obtain ⟨Ax3, cx3, rfl⟩ := own_formV o3
          obtain ⟨v4, y4, hr4, rec4, t4, b4⟩ := HB.out.2.1.push t03 tx.size (by omega) (own_moreW o3 T2.out.size) 30
          obtain ⟨A4, c4, rfl⟩ : ∃ A c, v4 = .slice A (pre ++ [recOf bc]).length c := by
            obtain ⟨vs, _, h2, _⟩ := rec4.ex
            exact own_formV h2
          have htl := HTL.out.1.off t4 tx.size b4
          have t05 := HB.out.2.2.2.trans t4 (by intro y hy; exact .inr (b4 y hy))
          have HF := Lib.hid (And.intro htl (And.intro rec4 (And.intro t05 (show res = ((pre ++ [recOf bc]) ++ (cutL (m.toNat - (pre ++ [recOf bc]).length) (recTail bc)).1, (cutL (m.toNat - (pre ++ [recOf bc]).length) (recTail bc)).2) by rw [HB.out.2.2.1, HTL.out.2.1]; simp))))
          clear htl rec4 t05 t4 b4 o3 bel3 t3 t03 CL
          go_wp2_with (at_builtin; refine wpList_append_at rfl (.tmp 30) (.tmp 36) rfl hr4 rfl rfl ?_)
          go_roundw
          case rel => exact ⟨pre ++ [recOf bc], recTail bc, _, _, A4, c4, rfl, by simp, HF.out.1, HF.out.2.1, by simp; omega, HF.out.2.2.2, by have := HTL.out.2.2; omega, by have := HTL.out.2.2; simp; omega, HF.out.2.2.1⟩
          case measure => (have := HTL.out.2.2; simp [lenV]; omega)
      · have hE := Lib.hid (END.out (.inl (by omega)))
        have hpe : m = (pre.length : Int) := by omega
        subst hpe
        have T2 := Lib.hid (Turns.refl [] Y)
        obtain ⟨vs, hv1, hv2, hv3⟩ := (HB.out.2.1.on T2.out).ex
        have CL := Lib.hid (CloneRows_any _ pre.length vs (fun u hu => by
          obtain ⟨j, hj, rfl⟩ := List.mem_iff_getElem.1 hu
          obtain ⟨u', hu', hs, _⟩ := hv3 j (by omega)
          rw [List.getElem?_eq_getElem hj] at hu'
          injection hu' with hu'
          rw [hu']
          obtain ⟨_, _, _, hv, _⟩ := hs
          rw [hv]; rfl) Y (Sl.of_own hv2) (by omega))
        have HV := Lib.hid (And.intro hv1 (fun (j : Nat) (h : j < pre.length) => (hv3 j h).imp fun u hu => And.intro hu.1 (And.intro hu.2.1 (fun b hb => (hu.2.2.2 b hb).1))))
        clear hv1 hv2 hv3
        go_wp2_with fail
        refine CL.out.mono ?_
        rintro e y9 ⟨v9, rfl, o9, t9⟩
        obtain ⟨A9, c9, rfl⟩ := own_formV o9
        have HF := Lib.hid (And.intro (recs_clone HV.out.1 HV.out.2 (Nat.le_trans tx.size T2.out.size) o9 t9) ((HB.out.2.2.2.trans T2.out (by simp)).trans t9 (by simp)))
        clear o9 t9 CL
        go_wp2_with fail
        go_ret2
        rw [hE.out]
        exact ⟨A9, pre.length, c9, rfl, HF.out.1, HF.out.2⟩
    · have x8 : (bc.length : Int) < 8 := by omega
      have d8 : decide (8 ≤ bc.length) = false := decide_eq_false h8
      have hE := Lib.hid (END.out (.inr (by cases h : recOk bc; rfl; exact absurd ((recOk_iff bc).1 h).1 h8)))
      have T2 := Lib.hid (Turns.refl [] Y)
      obtain ⟨vs, hv1, hv2, hv3⟩ := (HB.out.2.1.on T2.out).ex
      have CL := Lib.hid (CloneRows_any _ pre.length vs (fun u hu => by
        obtain ⟨j, hj, rfl⟩ := List.mem_iff_getElem.1 hu
        obtain ⟨u', hu', hs, _⟩ := hv3 j (by omega)
        rw [List.getElem?_eq_getElem hj] at hu'
        injection hu' with hu'
        rw [hu']
        obtain ⟨_, _, _, hv, _⟩ := hs
        rw [hv]; rfl) Y (Sl.of_own hv2) (by omega))
      have HV := Lib.hid (And.intro hv1 (fun (j : Nat) (h : j < pre.length) => (hv3 j h).imp fun u hu => And.intro hu.1 (And.intro hu.2.1 (fun b hb => (hu.2.2.2 b hb).1))))
      clear hv1 hv2 hv3
      go_wp2_with fail
      refine CL.out.mono ?_
      rintro e y9 ⟨v9, rfl, o9, t9⟩
      obtain ⟨A9, c9, rfl⟩ := own_formV o9
      have HF := Lib.hid (And.intro (recs_clone HV.out.1 HV.out.2 (Nat.le_trans tx.size T2.out.size) o9 t9) ((HB.out.2.2.2.trans T2.out (by simp)).trans t9 (by simp)))
      clear o9 t9 CL
      go_wp2_with fail
      go_ret2
      rw [hE.out]
      exact ⟨A9, pre.length, c9, rfl, HF.out.1, HF.out.2⟩
end Go.Proofs.Ytdhbaepmbgoobaa
