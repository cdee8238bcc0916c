/- A piece is taken: the rounds. -/
import Derived.Test.YtoahnhphfabajaaGreatGS3
import Derived.Deep.DeepCutAuto
import Derived.Deep.CutBlock
namespace Go.Proofs.YtoahnhphfabajaaGreat
set_option maxRecDepth 10000
open Go.RowKit
set_option linter.unusedVariables false
set_option maxRecDepth 10000
set_option linter.unusedSimpArgs false
set_option linter.unnecessarySimpa false

theorem rounds_len (w t : List UInt32) (h : t.length = 8) : ∀ k, (rounds w k t).length = 8
  | 0 => h
  | k + 1 => rfl
theorem spread_len (b : List UInt8) : (spread b).length = 64 := by unfold spread; rw [spreadTo_len]; simp [zero64]
def addTo (s t : List UInt32) : Nat → List UInt32
  | 0 => t
  | k + 1 => (addTo s t k).set k ((addTo s t k).getD k 0 + s.getD k 0)
theorem addTo_len (s t : List UInt32) : ∀ k, (addTo s t k).length = t.length
  | 0 => rfl
  | k + 1 => by rw [addTo, List.length_set, addTo_len s t k]
theorem addTo_get (s t : List UInt32) : ∀ k, k ≤ t.length → ∀ j, (addTo s t k).getD j 0 = if j < k then t.getD j 0 + s.getD j 0 else t.getD j 0
  | 0, _, j => by rw [if_neg (by omega)]; rfl
  | k + 1, hk, j => by
    have ih := addTo_get s t k (by omega)
    rw [addTo]
    by_cases e : j = k
    · subst e
      rw [getD_set_self (by rw [addTo_len]; omega), ih, if_neg (by omega), if_pos (by omega)]
    · rw [getD_set_ne (by omega), ih]
      by_cases h : j < k
      · rw [if_pos h, if_pos (by omega)]
      · rw [if_neg h, if_neg (by omega)]
theorem addTo_all (s t : List UInt32) (h : t.length = 8) : addTo s t 8 = addL s t := by
  apply List.ext_getElem?
  intro i
  by_cases hi : i < 8
  · have h1 : i < (addTo s t 8).length := by rw [addTo_len]; omega
    have h2 := addTo_get s t 8 (by omega) i
    rw [List.getD_eq_getElem?_getD, List.getElem?_eq_getElem h1, if_pos hi] at h2
    rw [List.getElem?_eq_getElem h1]
    have h3 : i < (addL s t).length := by simp [addL]; omega
    rw [List.getElem?_eq_getElem h3]
    congr 1
    have h4 : (addL s t)[i] = t.getD i 0 + s.getD i 0 := by simp [addL]
    rw [h4]
    simpa using h2
  · rw [List.getElem?_eq_none (by rw [addTo_len]; omega), List.getElem?_eq_none (by simp [addL]; omega)]
theorem bitsNot' (x : UInt32) : bits .xor .u32 (if IntKind.u32.signed = true then -1 else IntKind.u32.max) (x.toNat : Int) = ((~~~x).toNat : Int) := by
  have h : (if IntKind.u32.signed = true then -1 else IntKind.u32.max) = (4294967295 : Int) := by decide
  rw [h, bitsNot]
theorem shaK_length : shaK.length = 64 := rfl
/-- A round, its numbers taken apart. -/
theorem round1_eq (t : List UInt32) (k w : UInt32) {t0 t1 t2 t3 t4 t5 t6 t7 : UInt32} (h0 : t0 = t.getD 0 0) (h1 : t1 = t.getD 1 0) (h2 : t2 = t.getD 2 0) (h3 : t3 = t.getD 3 0) (h4 : t4 = t.getD 4 0) (h5 : t5 = t.getD 5 0) (h6 : t6 = t.getD 6 0) (h7 : t7 = t.getD 7 0)
    {x y : UInt32} (hx : x = t7 + (ror t4 6 ^^^ ror t4 11 ^^^ ror t4 25) + ((t4 &&& t5) ^^^ (~~~t4 &&& t6)) + k + w) (hy : y = (ror t0 2 ^^^ ror t0 13 ^^^ ror t0 22) + ((t0 &&& t1) ^^^ (t0 &&& t2) ^^^ (t1 &&& t2))) :
    round1 t k w = [x + y, t0, t1, t2, t3 + x, t4, t5, t6] := by
  subst h0 h1 h2 h3 h4 h5 h6 h7 hx hy
  rfl

/-- The variables of 'add': the sum ahead, the result, the words, the numbers, the sum on its way. -/
structure SFr (w W : World) (us zz sp ks ts : List Value) (p2 p4 p5 p6 p7 : Nat) : Prop where
  b2 : Blk W p2 us 175
  b4 : Blk W p4 zz 175
  b5 : Blk W p5 sp 165
  b6 : Blk W p6 ks 165
  b7 : Blk W p7 ts 175
  turns : Turns [] w W
  ne2 : p2 ≠ p7
  ne4 : p4 ≠ p7
  ne5 : p5 ≠ p7
  ne6 : p6 ≠ p7
  ge7 : w.heap.size ≤ p7
theorem SFr.next {w W W' : World} {us zz sp ks ts ts' : List Value} {p2 p4 p5 p6 p7 : Nat} (h : SFr w W us zz sp ks ts p2 p4 p5 p6 p7) (t : Turns [p7] W W') (b : Blk W' p7 ts' 175) : SFr w W' us zz sp ks ts' p2 p4 p5 p6 p7 :=
  ⟨h.b2.turns t (by simpa using h.ne2), h.b4.turns t (by simpa using h.ne4), h.b5.turns t (by simpa using h.ne5), h.b6.turns t (by simpa using h.ne6), b, h.turns.trans t (by intro x hx; simp at hx; have := h.ge7; exact .inr (by omega)), h.ne2, h.ne4, h.ne5, h.ne6, h.ge7⟩

set_option maxRecDepth 100000 in
set_option maxHeartbeats 4000000 in
theorem addF_any (s : List UInt32) (hs : s.length = 8) (A : Option Addr) (n c : Nat) (b : List UInt8) (B : Nat) (w : World) (h : Sl w B 1 (.slice A n c) n (bvs b)) (hB : B ≤ w.heap.size) (hn : 64 ≤ n) :
    Calls Tryz.prog 106 #[.agg (u32s s).toArray, .slice A n c] w fun e w' => e = .returned (.agg (u32s (take1 s b)).toArray) ∧ Turns [] w w' := by
  obtain ⟨res, hres⟩ : ∃ res, res = u32s (take1 s b) := ⟨_, rfl⟩
  rw [← hres]
  have HRES := Lib.hid hres
  clear hres
  have hz8 := zero_w8
  have hz64 := zero_w64
  have hs1 := u32s_one s
  have hsl : (u32s s).length = 8 := by rw [u32s_length]; exact hs
  obtain ⟨p2, hp2⟩ : ∃ p2, p2 = w.heap.size := ⟨_, rfl⟩
  obtain ⟨X0, hX0⟩ : ∃ X0, X0 = (w.alloc (.cells (u32s s).toArray 175)).alloc (.cells (u32s (zerosW 8)).toArray 175) := ⟨_, rfl⟩
  have t0 := ((Turns.refl [] w).alloc (.cells (u32s s).toArray 175)).alloc (.cells (u32s (zerosW 8)).toArray 175)
  have b2 := (Blk.new w (u32s s) 175).alloc (.cells (u32s (zerosW 8)).toArray 175)
  have b4 := Blk.new (w.alloc (.cells (u32s s).toArray 175)) (u32s (zerosW 8)) 175
  rw [← hX0] at t0 b2 b4
  have hsz : (w.alloc (.cells (u32s s).toArray 175)).heap.size = w.heap.size + 1 := by simp
  rw [hsz, ← hp2] at b4
  rw [← hp2] at b2
  have sl0 := (t0.slice h hB (by simp))
  have SP := Lib.hid (spreadF_any A n c b B X0 sl0 (Nat.le_trans hB t0.size) hn)
  have HX := Lib.hid hX0
  have HP := Lib.hid hp2
  generalize hzz : u32s (zerosW 8) = zz at hz8 b4 HX
  generalize hzz6 : u32s (zerosW 64) = z6 at hz64
  have HZ := Lib.hid (And.intro hzz hzz6)
  have H0 := Lib.hid (And.intro b2 (And.intro b4 t0))
  generalize hus : u32s s = us at HX hs1 hsl H0
  have HU := Lib.hid hus
  clear hX0 hsz hp2 h b2 b4 t0 sl0 hzz hzz6 hus
  go_enter Tryz.func106, Tryz.ntmps106
  go_upto_region 1 with (first
    | (refine wpList_alloc_arr rfl 175 rfl zz.toArray hz8 ?_)
    | fail)
  simp only [Act.put, List.setIfInBounds_toArray, List.set_cons_succ, List.set_cons_zero, World.size_alloc]
  go_cut [5, 6] (fun u5 u6 wx => ∃ p5 p6 : Nat, u5 = .pointer (some ⟨p5, 0, none⟩) ∧ u6 = .pointer (some ⟨p6, 0, none⟩) ∧ Blk wx p2 us 175 ∧ Blk wx (p2 + 1) zz 175 ∧ Blk wx p5 (u32s (spread b)) 165 ∧ Blk wx p6 (u32s shaK) 165 ∧ Turns [] w wx)
  case first =>
    go_wp2_with fail
    rw [← HX.out]
    refine SP.out.mono ?_
    rintro e x1 ⟨rfl, t1⟩
    have KY := Lib.hid (keys_any x1)
    have hsp : (u32s (spread b)).length = 64 := by rw [u32s_length, spread_len]
    have hsp1 := u32s_one (spread b)
    generalize hspe : u32s (spread b) = sp at hsp hsp1
    have HSP := Lib.hid hspe
    have H1 := Lib.hid t1
    clear t1 hspe SP
    go_wp2_with fail
    refine KY.out.mono ?_
    rintro e x2 ⟨rfl, t2⟩
    have hkl := shaK_len
    have hk1 := u32s_one shaK
    generalize hke : u32s shaK = ks at hkl hk1
    have HK := Lib.hid hke
    have hzl6 : z6.length = 64 := by rw [← HZ.out.2, zerosW_len]
    have hzl8 : zz.length = 8 := by rw [← HZ.out.1, zerosW_len]
    have B5 := (Blk.new x2 z6 165).alloc (.cells z6.toArray 165)
    have B6 := Blk.new (x2.alloc (.cells z6.toArray 165)) z6 165
    have hsz : (x2.alloc (.cells z6.toArray 165)).heap.size = x2.heap.size + 1 := by simp
    have T3 := ((Turns.refl [] x2).alloc (.cells z6.toArray 165)).alloc (.cells z6.toArray 165)
    have T2 := H1.out.trans t2 (by simp)
    have v2 := (H0.out.1.turns T2 (by simp)).turns T3 (by simp)
    have v4 := (H0.out.2.1.turns T2 (by simp)).turns T3 (by simp)
    have t0 := (H0.out.2.2.trans T2 (by simp)).trans T3 (by simp)
    have hpw := HP.out
    have hx2 : p2 + 1 < x2.heap.size := by have := (H0.out.2.1.turns T2 (by simp)).lt; omega
    have hsize2 : ((x2.alloc (.cells z6.toArray 165)).alloc (.cells z6.toArray 165)).heap.size = x2.heap.size + 1 + 1 := by simp
    have hi64 : (Tryz.prog.info? 165).map (·.size) = some sp.length := by rw [size_w64, hsp]
    have hi64' : (Tryz.prog.info? 165).map (·.size) = some ks.length := by rw [size_w64, hkl]
    have hi8 : (Tryz.prog.info? 175).map (·.size) = some us.length := by rw [size_w8, hsl]
    have Q_B5 := Lib.hid B5
    have Q_B6 := Lib.hid B6
    have Q_v2 := Lib.hid v2
    have Q_v4 := Lib.hid v4
    have Q_t0 := Lib.hid t0
    have Q_hsize2 := Lib.hid hsize2
    have Q_hsp := Lib.hid hsp
    have Q_hsp1 := Lib.hid hsp1
    have Q_hkl := Lib.hid hkl
    have Q_hk1 := Lib.hid hk1
    have Q_hzl6 := Lib.hid hzl6
    have Q_hzl8 := Lib.hid hzl8
    have Q_hsl := Lib.hid hsl
    have Q_hs1 := Lib.hid hs1
    have Q_hi64 := Lib.hid hi64
    have Q_hi64p := Lib.hid hi64'
    have Q_hi8 := Lib.hid hi8
    have HN := Lib.hid (And.intro hpw hx2)
    clear B5 B6 v2 v4 t0 hsz T3 T2 t2 hsize2 hsp hsp1 hkl hk1 hzl6 hzl8 hsl hs1 hi64 hi64' hi8 hke H1 KY H0 hpw hx2
    go_wp2_with (first
      | (refine wpList_alloc_arr (o := ⟨some 5, _, _, _, _, _⟩) rfl 165 rfl z6.toArray hz64 ?_)
      | (refine wpList_alloc_arr (o := ⟨some 6, _, _, _, _, _⟩) rfl 165 rfl z6.toArray hz64 ?_)
      | (refine wpList_store_blk rfl 165 (.tmp 5) (.tmp 15) rfl x2.heap.size (by kernel_rfl) sp z6 165 (by kernel_rfl) Q_B5.out (by rw [Q_hsp.out, Q_hzl6.out]) Q_hi64.out Q_hsp1.out (fun y1 hb1 ht1 hs1 => ?_); have HQ := Lib.hid (And.intro hb1 (And.intro ht1 hs1)); clear hb1 ht1 hs1)
      | (refine wpList_store_blk rfl 165 (.tmp 6) (.tmp 16) rfl (x2.alloc (.cells z6.toArray 165)).heap.size (by kernel_rfl) ks z6 165 (by kernel_rfl) (Q_B6.out.turns HQ.out.2.1 (by simp)) (by rw [Q_hkl.out, Q_hzl6.out]) Q_hi64p.out Q_hk1.out (fun y2 hb2 ht2 hs2 => ?_); have HR := Lib.hid (And.intro hb2 (And.intro ht2 hs2)); clear hb2 ht2 hs2)
      | fail)

    go_meet
    have hn1 := HN.out.1
    have hn2 := HN.out.2
    have hsz6 : (x2.alloc (.cells z6.toArray 165)).heap.size = x2.heap.size + 1 := by simp
    refine ⟨x2.heap.size, (x2.alloc (.cells z6.toArray 165)).heap.size, rfl, rfl, (Q_v2.out.turns HQ.out.2.1 (by simp; omega)).turns HR.out.2.1 (by simp; omega), (Q_v4.out.turns HQ.out.2.1 (by simp; omega)).turns HR.out.2.1 (by simp; omega), ?_, ?_, (Q_t0.out.trans HQ.out.2.1 (by intro x hx; simp at hx; exact .inr (by omega))).trans HR.out.2.1 (by intro x hx; simp at hx; exact .inr (by omega))⟩
    · rw [HSP.out]; exact HQ.out.1.turns HR.out.2.1 (by simp)
    · rw [HK.out]; exact HR.out.1
  case rest =>
    obtain ⟨p5, p6, rfl, rfl, v2, v4, v5, v6, t0⟩ := hcut
    rw [← HP.out]
    have hzl8 : zz.length = 8 := by rw [← HZ.out.1, zerosW_len]
    have hi8 : (Tryz.prog.info? 175).map (·.size) = some us.length := by rw [size_w8, hsl]
    have b7 := Blk.new wc zz 175
    have ta : Turns [] wc (wc.alloc (.cells zz.toArray 175)) := (Turns.refl _ _).alloc _
    have Q_hi8 := Lib.hid hi8
    have Q_b7 := Lib.hid b7
    have Q_v2 := Lib.hid v2
    have Q_hs1 := Lib.hid hs1
    have Q_l := Lib.hid (show zz.length = us.length by omega)
    have HA := Lib.hid (And.intro v2 (And.intro v4 (And.intro v5 (And.intro v6 (And.intro t0 ta)))))
    clear v2 v4 v5 v6 t0 ta b7 hi8 hzl8 hs1 hsl H0 SP
    go_upto_region 2 with fail
    go_cut [7] (fun u7 wx => ∃ p7 : Nat, u7 = .pointer (some ⟨p7, 0, none⟩) ∧ SFr w wx us zz (u32s (spread b)) (u32s shaK) us p2 (p2 + 1) p5 p6 p7)
    case first =>
      go_wp2_with (first
        | (refine wpList_load_blk rfl 175 (.tmp 2) rfl p2 (by kernel_rfl) us _ _ Q_v2.out Tryz.underlying175 rfl Q_hi8.out ?_)
        | (refine wpList_alloc_arr (o := ⟨some 7, _, _, _, _, _⟩) rfl 175 rfl zz.toArray hz8 ?_)
        | (refine wpList_store_blk rfl 175 (.tmp 7) (.tmp 17) rfl wc.heap.size (by kernel_rfl) us zz 175 (by kernel_rfl) Q_b7.out Q_l.out Q_hi8.out Q_hs1.out (fun y1 hb1 ht1 hs1 => ?_); have HQ := Lib.hid (And.intro hb1 ht1); clear hb1 ht1 hs1)
        | fail)
      go_meet
      obtain ⟨v2, v4, v5, v6, t0, ta⟩ := HA.out
      have l2 := v2.lt
      have l4 := v4.lt
      have l5 := v5.lt
      have l6 := v6.lt
      have hw := t0.size
      have f : SFr w (wc.alloc (.cells zz.toArray 175)) us zz (u32s (spread b)) (u32s shaK) zz p2 (p2 + 1) p5 p6 wc.heap.size :=
        ⟨v2.turns ta (by simp), v4.turns ta (by simp), v5.turns ta (by simp), v6.turns ta (by simp), Q_b7.out, t0.trans ta (by simp), by omega, by omega, by omega, by omega, hw⟩
      exact ⟨wc.heap.size, rfl, f.next HQ.out.2 HQ.out.1⟩
    case rest =>
      obtain ⟨p7, rfl, hf⟩ := hcut
      have HF0 := Lib.hid hf
      obtain ⟨W, hW⟩ : ∃ W, W = spread b := ⟨_, rfl⟩
      have HW := Lib.hid hW
      have hWl : W.length = 64 := by rw [hW, spread_len]
      have hf0 := hf
      rw [← hW, ← HU.out] at hf0
      have H0' := Lib.hid hf0
      clear HA hf hW hf0
      go_wp2_with fail
      go_loopw [18] (fun i wr => ∃ k : Nat, k ≤ 64 ∧ i = .int .i64 k ∧ SFr w wr (u32s s) zz (u32s W) (u32s shaK) (u32s (rounds W k s)) p2 (p2 + 1) p5 p6 p7) (fun i _ => 64 - (intOf i).toNat)
      case atStart => exact ⟨0, by omega, rfl, H0'.out⟩
      case round =>
        obtain ⟨k, hk, rfl, hf⟩ := hrel
        by_cases hlt : k < 64
        · have hl8 := rounds_len W s hs k
          have hrd : rounds W (k + 1) s = round1 (rounds W k s) (shaK.getD k 0) (W.getD k 0) := rfl
          generalize rounds W k s = T at hf hl8 hrd
          have ck := hf.b6.cell k
          have cw := hf.b5.cell k
          rw [u32s_get shaK k (by rw [shaK_length]; exact hlt)] at ck
          rw [u32s_get W k (by omega)] at cw
          have c0 := hf.b7.cell 0
          have c1 := hf.b7.cell 1
          have c2 := hf.b7.cell 2
          have c3 := hf.b7.cell 3
          have c4 := hf.b7.cell 4
          have c5 := hf.b7.cell 5
          have c6 := hf.b7.cell 6
          have c7 := hf.b7.cell 7
          rw [u32s_get T _ (by omega)] at c0 c1 c2 c3 c4 c5 c6 c7
          have hr1 := fun (x y : UInt32) => @round1_eq T (shaK.getD k 0) (W.getD k 0) _ _ _ _ _ _ _ _ rfl rfl rfl rfl rfl rfl rfl rfl x y
          generalize shaK.getD k 0 = kk at ck hrd hr1
          generalize W.getD k 0 = wk at cw hrd hr1
          generalize T.getD 0 0 = t0 at c0 hr1
          generalize T.getD 1 0 = t1 at c1 hr1
          generalize T.getD 2 0 = t2 at c2 hr1
          generalize T.getD 3 0 = t3 at c3 hr1
          generalize T.getD 4 0 = t4 at c4 hr1
          generalize T.getD 5 0 = t5 at c5 hr1
          generalize T.getD 6 0 = t6 at c6 hr1
          generalize T.getD 7 0 = t7 at c7 hr1
          have HR1 := Lib.hid hr1
          have HRD := Lib.hid hrd
          have HF := Lib.hid hf
          have HTL := Lib.hid hl8
          have hki : (k : Int) < 64 := by omega
          have hT : Turns [] wr wr.drew := (Turns.refl _ _).drew
          clear hr1 hrd hf hl8
          go_upto_region 6 with fail
          refine rk0 (fun W => Turns [] wr W) (fun _ => True) 6 6 ?_
          refine rkA 0 21 1 (v := ?_) ?_ (.mk' hT trivial) ?_
          rotate_left
          · intro W hS; go_simp; all_goals with_reducible rfl
          try simp only [sI, sS, sZ]
          refine rkA 1 22 3 (v := ?_) ?_ (.mk' hT trivial) ?_
          rotate_left
          · intro W hS; have c2 := cellL hS c4 (by simp); go_simp; all_goals with_reducible rfl
          try simp only [sI, sS, sZ]
          refine rkA 2 23 7 (v := ?_) ?_ (.mk' hT trivial) ?_
          rotate_left
          · intro W hS; go_simp; all_goals with_reducible rfl
          try simp only [sI, sS, sZ]
          refine rkA 3 24 15 (v := ?_) ?_ (.mk' hT trivial) ?_
          rotate_left
          · intro W hS; have c2 := cellL hS c0 (by simp); go_simp; all_goals with_reducible rfl
          try simp only [sI, sS, sZ]
          refine rkA 4 9 31 (v := ?_) ?_ (.mk' hT trivial) ?_
          rotate_left
          · intro W hS; go_simp; all_goals with_reducible rfl
          try simp only [sI, sS, sZ]
          refine rkA 5 10 63 (v := ?_) ?_ (.mk' hT trivial) ?_
          rotate_left
          · intro W hS; go_simp; all_goals with_reducible rfl
          try simp only [sI, sS, sZ]
          refine rkZ ?_
          have hT : Turns [] wr wr.drew.drew := ((Turns.refl _ _).drew).drew
          go_wp2_with fail
          refine rk0 (fun W => Turns [] wr W) (fun _ => True) 31 31 ?_
          refine rkA 0 25 1 (v := ?_) ?_ (.mk' hT trivial) ?_
          rotate_left
          · intro W hS; go_simp; all_goals with_reducible rfl
          try simp only [sI, sS, sZ]
          refine rkA 1 26 3 (v := ?_) ?_ (.mk' hT trivial) ?_
          rotate_left
          · intro W hS; have c2 := cellL hS c7 (by simp); go_simp; all_goals with_reducible rfl
          try simp only [sI, sS, sZ]
          refine rkA 2 27 7 (v := ?_) ?_ (.mk' hT trivial) ?_
          rotate_left
          · intro W hS; go_simp; all_goals with_reducible rfl
          try simp only [sI, sS, sZ]
          refine rkA 4 29 23 (v := ?_) ?_ (.mk' hT trivial) ?_
          rotate_left
          · intro W hS; go_simp; all_goals with_reducible rfl
          try simp only [sI, sS, sZ]
          refine rkA 7 32 151 (v := ?_) ?_ (.mk' hT trivial) ?_
          rotate_left
          · intro W hS; go_simp; all_goals with_reducible rfl
          try simp only [sI, sS, sZ]
          refine rkA 11 36 2199 (v := ?_) ?_ (.mk' hT trivial) ?_
          rotate_left
          · intro W hS; go_simp; all_goals with_reducible rfl
          try simp only [sI, sS, sZ]
          refine rkA 12 37 6295 (v := ?_) ?_ (.mk' hT trivial) ?_
          rotate_left
          · intro W hS; go_simp; all_goals with_reducible rfl
          try simp only [sI, sS, sZ]
          refine rkA 13 38 14487 (v := ?_) ?_ (.mk' hT trivial) ?_
          rotate_left
          · intro W hS; have c2 := cellL hS c5 (by simp); go_simp; all_goals with_reducible rfl
          try simp only [sI, sS, sZ]
          refine rkA 14 39 30871 (v := ?_) ?_ (.mk' hT trivial) ?_
          rotate_left
          · intro W hS; go_simp; all_goals with_reducible rfl
          try simp only [sI, sS, sZ]
          refine rkA 15 40 63639 (v := ?_) ?_ (.mk' hT trivial) ?_
          rotate_left
          · intro W hS; go_simp; all_goals with_reducible rfl
          try simp only [sI, sS, sZ]
          refine rkA 16 41 129175 (v := ?_) ?_ (.mk' hT trivial) ?_
          rotate_left
          · intro W hS; go_simp; all_goals with_reducible rfl
          try simp only [sI, sS, sZ]
          refine rkA 17 42 260247 (v := ?_) ?_ (.mk' hT trivial) ?_
          rotate_left
          · intro W hS; go_simp; all_goals with_reducible rfl
          try simp only [sI, sS, sZ]
          refine rkA 18 43 522391 (v := ?_) ?_ (.mk' hT trivial) ?_
          rotate_left
          · intro W hS; have c2 := cellL hS c6 (by simp); go_simp; all_goals with_reducible rfl
          try simp only [sI, sS, sZ]
          refine rkA 19 44 1046679 (v := ?_) ?_ (.mk' hT trivial) ?_
          rotate_left
          · intro W hS; go_simp; all_goals with_reducible rfl
          try simp only [sI, sS, sZ]
          refine rkA 20 45 2095255 (v := ?_) ?_ (.mk' hT trivial) ?_
          rotate_left
          · intro W hS; go_simp; all_goals with_reducible rfl
          try simp only [sI, sS, sZ]
          refine rkA 22 47 6289559 (v := ?_) ?_ (.mk' hT trivial) ?_
          rotate_left
          · intro W hS; go_simp; all_goals with_reducible rfl
          try simp only [sI, sS, sZ]
          refine rkA 23 48 14678167 (v := ?_) ?_ (.mk' hT trivial) ?_
          rotate_left
          · intro W hS; go_simp; all_goals with_reducible rfl
          try simp only [sI, sS, sZ]
          refine rkA 24 49 31455383 (v := ?_) ?_ (.mk' hT trivial) ?_
          rotate_left
          · intro W hS; have c2 := cellL hS ck (by simp); go_simp; all_goals with_reducible rfl
          try simp only [sI, sS, sZ]
          refine rkA 26 51 98564247 (v := ?_) ?_ (.mk' hT trivial) ?_
          rotate_left
          · intro W hS; go_simp; all_goals with_reducible rfl
          try simp only [sI, sS, sZ]
          refine rkA 27 52 232781975 (v := ?_) ?_ (.mk' hT trivial) ?_
          rotate_left
          · intro W hS; go_simp; all_goals with_reducible rfl
          try simp only [sI, sS, sZ]
          refine rkA 28 53 501217431 (v := ?_) ?_ (.mk' hT trivial) ?_
          rotate_left
          · intro W hS; have c2 := cellL hS cw (by simp); go_simp; all_goals with_reducible rfl
          try simp only [sI, sS, sZ]
          refine rk1 3 501217439 (fun K hK => ?_)
          go_simp
          refine (right_6 t4 _).mono ?_
          rintro e ww ⟨rfl, rfl⟩
          refine hK _ _ (.mk' hT trivial) ?_
          clear hK K
          try simp only [sI, sS, sZ]
          refine rk1 5 501217471 (fun K hK => ?_)
          go_simp
          refine (right_11 t4 _).mono ?_
          rintro e ww ⟨rfl, rfl⟩
          refine hK _ _ (.mk' hT trivial) ?_
          clear hK K
          try simp only [sI, sS, sZ]
          refine rkA 6 31 501217535 (v := ?_) ?_ (.mk' hT trivial) ?_
          rotate_left
          · intro W hS; go_simp; all_goals with_reducible rfl
          try simp only [sI, sS, sZ]
          refine rk1 8 501217791 (fun K hK => ?_)
          go_simp
          refine (right_25 t4 _).mono ?_
          rintro e ww ⟨rfl, rfl⟩
          refine hK _ _ (.mk' hT trivial) ?_
          clear hK K
          try simp only [sI, sS, sZ]
          refine rkA 9 34 501218303 (v := ?_) ?_ (.mk' hT trivial) ?_
          rotate_left
          · intro W hS; go_simp; all_goals with_reducible rfl
          try simp only [sI, sS, sZ]
          refine rkA 10 35 501219327 (v := ?_) ?_ (.mk' hT trivial) ?_
          rotate_left
          · intro W hS; go_simp; all_goals with_reducible rfl
          try simp only [sI, sS, sZ]
          refine rkA 21 46 503316479 (v := ?_) ?_ (.mk' hT trivial) ?_
          rotate_left
          · intro W hS; go_simp; all_goals with_reducible rfl
          try simp only [sI, sS, sZ]
          refine rkA 25 50 536870911 (v := ?_) ?_ (.mk' hT trivial) ?_
          rotate_left
          · intro W hS; go_simp; all_goals with_reducible rfl
          try simp only [sI, sS, sZ]
          refine rkA 29 54 1073741823 (v := ?_) ?_ (.mk' hT trivial) ?_
          rotate_left
          · intro W hS; go_simp; all_goals with_reducible rfl
          try simp only [sI, sS, sZ]
          refine rkA 30 11 2147483647 (v := ?_) ?_ (.mk' hT trivial) ?_
          rotate_left
          · intro W hS; go_simp; all_goals with_reducible rfl
          try simp only [sI, sS, sZ]
          refine rkZ ?_
          simp only [bitsXor, bitsAnd, bitsNot', wrapAdd]
          obtain ⟨x, hx⟩ : ∃ x, x = t7 + (ror t4 6 ^^^ ror t4 11 ^^^ ror t4 25) + ((t4 &&& t5) ^^^ (~~~t4 &&& t6)) + kk + wk := ⟨_, rfl⟩
          rw [← hx]
          have HX1 := Lib.hid hx
          clear hx
          have hT : Turns [] wr wr.drew.drew.drew := (((Turns.refl _ _).drew).drew).drew
          go_wp2_with fail
          refine rk0 (fun W => Turns [] wr W) (fun _ => True) 25 25 ?_
          refine rkA 0 55 1 (v := ?_) ?_ (.mk' hT trivial) ?_
          rotate_left
          · intro W hS; go_simp; all_goals with_reducible rfl
          try simp only [sI, sS, sZ]
          refine rkA 2 57 5 (v := ?_) ?_ (.mk' hT trivial) ?_
          rotate_left
          · intro W hS; go_simp; all_goals with_reducible rfl
          try simp only [sI, sS, sZ]
          refine rkA 5 60 37 (v := ?_) ?_ (.mk' hT trivial) ?_
          rotate_left
          · intro W hS; go_simp; all_goals with_reducible rfl
          try simp only [sI, sS, sZ]
          refine rkA 8 63 293 (v := ?_) ?_ (.mk' hT trivial) ?_
          rotate_left
          · intro W hS; go_simp; all_goals with_reducible rfl
          try simp only [sI, sS, sZ]
          refine rkA 9 64 805 (v := ?_) ?_ (.mk' hT trivial) ?_
          rotate_left
          · intro W hS; go_simp; all_goals with_reducible rfl
          try simp only [sI, sS, sZ]
          refine rkA 10 65 1829 (v := ?_) ?_ (.mk' hT trivial) ?_
          rotate_left
          · intro W hS; have c2 := cellL hS c1 (by simp); go_simp; all_goals with_reducible rfl
          try simp only [sI, sS, sZ]
          refine rkA 11 66 3877 (v := ?_) ?_ (.mk' hT trivial) ?_
          rotate_left
          · intro W hS; go_simp; all_goals with_reducible rfl
          try simp only [sI, sS, sZ]
          refine rkA 12 67 7973 (v := ?_) ?_ (.mk' hT trivial) ?_
          rotate_left
          · intro W hS; go_simp; all_goals with_reducible rfl
          try simp only [sI, sS, sZ]
          refine rkA 13 68 16165 (v := ?_) ?_ (.mk' hT trivial) ?_
          rotate_left
          · intro W hS; go_simp; all_goals with_reducible rfl
          try simp only [sI, sS, sZ]
          refine rkA 14 69 32549 (v := ?_) ?_ (.mk' hT trivial) ?_
          rotate_left
          · intro W hS; have c2 := cellL hS c2 (by simp); go_simp; all_goals with_reducible rfl
          try simp only [sI, sS, sZ]
          refine rkA 15 70 65317 (v := ?_) ?_ (.mk' hT trivial) ?_
          rotate_left
          · intro W hS; go_simp; all_goals with_reducible rfl
          try simp only [sI, sS, sZ]
          refine rkA 16 71 130853 (v := ?_) ?_ (.mk' hT trivial) ?_
          rotate_left
          · intro W hS; go_simp; all_goals with_reducible rfl
          try simp only [sI, sS, sZ]
          refine rkA 17 72 261925 (v := ?_) ?_ (.mk' hT trivial) ?_
          rotate_left
          · intro W hS; go_simp; all_goals with_reducible rfl
          try simp only [sI, sS, sZ]
          refine rkA 18 73 524069 (v := ?_) ?_ (.mk' hT trivial) ?_
          rotate_left
          · intro W hS; have c2 := cellL hS c1 (by simp); go_simp; all_goals with_reducible rfl
          try simp only [sI, sS, sZ]
          refine rkA 19 74 1048357 (v := ?_) ?_ (.mk' hT trivial) ?_
          rotate_left
          · intro W hS; go_simp; all_goals with_reducible rfl
          try simp only [sI, sS, sZ]
          refine rkA 20 75 2096933 (v := ?_) ?_ (.mk' hT trivial) ?_
          rotate_left
          · intro W hS; have c2 := cellL hS c2 (by simp); go_simp; all_goals with_reducible rfl
          try simp only [sI, sS, sZ]
          refine rkA 21 76 4194085 (v := ?_) ?_ (.mk' hT trivial) ?_
          rotate_left
          · intro W hS; go_simp; all_goals with_reducible rfl
          try simp only [sI, sS, sZ]
          refine rkA 22 77 8388389 (v := ?_) ?_ (.mk' hT trivial) ?_
          rotate_left
          · intro W hS; go_simp; all_goals with_reducible rfl
          try simp only [sI, sS, sZ]
          refine rk1 1 8388391 (fun K hK => ?_)
          go_simp
          refine (right_2 t0 _).mono ?_
          rintro e ww ⟨rfl, rfl⟩
          refine hK _ _ (.mk' hT trivial) ?_
          clear hK K
          try simp only [sI, sS, sZ]
          refine rk1 3 8388399 (fun K hK => ?_)
          go_simp
          refine (right_13 t0 _).mono ?_
          rintro e ww ⟨rfl, rfl⟩
          refine hK _ _ (.mk' hT trivial) ?_
          clear hK K
          try simp only [sI, sS, sZ]
          refine rkA 4 59 8388415 (v := ?_) ?_ (.mk' hT trivial) ?_
          rotate_left
          · intro W hS; go_simp; all_goals with_reducible rfl
          try simp only [sI, sS, sZ]
          refine rk1 6 8388479 (fun K hK => ?_)
          go_simp
          refine (right_22 t0 _).mono ?_
          rintro e ww ⟨rfl, rfl⟩
          refine hK _ _ (.mk' hT trivial) ?_
          clear hK K
          try simp only [sI, sS, sZ]
          refine rkA 7 62 8388607 (v := ?_) ?_ (.mk' hT trivial) ?_
          rotate_left
          · intro W hS; go_simp; all_goals with_reducible rfl
          try simp only [sI, sS, sZ]
          refine rkA 23 78 16777215 (v := ?_) ?_ (.mk' hT trivial) ?_
          rotate_left
          · intro W hS; go_simp; all_goals with_reducible rfl
          try simp only [sI, sS, sZ]
          refine rkA 24 12 33554431 (v := ?_) ?_ (.mk' hT trivial) ?_
          rotate_left
          · intro W hS; go_simp; all_goals with_reducible rfl
          try simp only [sI, sS, sZ]
          refine rkZ ?_
          simp only [bitsXor, bitsAnd, bitsNot', wrapAdd]
          obtain ⟨y, hy⟩ : ∃ y, y = (ror t0 2 ^^^ ror t0 13 ^^^ ror t0 22) + ((t0 &&& t1) ^^^ (t0 &&& t2) ^^^ (t1 &&& t2)) := ⟨_, rfl⟩
          rw [← hy]
          have HR := Lib.hid (show rounds W (k + 1) s = [x + y, t0, t1, t2, t3 + x, t4, t5, t6] by rw [HRD.out, HR1.out x y HX1.out hy])
          have hne : [Value.int .u32 (IntKind.u32.wrap ((x.toNat : Int) + (y.toNat : Int))), .int .u32 t0.toNat, .int .u32 t1.toNat, .int .u32 t2.toNat, .int .u32 (IntKind.u32.wrap ((t3.toNat : Int) + (x.toNat : Int))), .int .u32 t4.toNat, .int .u32 t5.toNat, .int .u32 t6.toNat] = u32s [x + y, t0, t1, t2, t3 + x, t4, t5, t6] := by
            rw [wrapAdd, wrapAdd]; rfl
          have HN := Lib.hid hne
          have hb7 := ((HF.out.b7.drew).drew).drew
          have Q_b7 := Lib.hid hb7
          have Q_one := Lib.hid (u32s_one [x + y, t0, t1, t2, t3 + x, t4, t5, t6])
          have Q_len := Lib.hid (show (u32s T).length = (u32s [x + y, t0, t1, t2, t3 + x, t4, t5, t6]).length by rw [u32s_length, u32s_length, HTL.out]; rfl)
          have Q_sz := Lib.hid (show (Tryz.prog.info? 175).map (·.size) = some (u32s [x + y, t0, t1, t2, t3 + x, t4, t5, t6]).length by rw [size_w8, u32s_length]; rfl)
          clear hy hT hne hb7
          go_wp2_with (first
            | (refine wpList_store_blk rfl 175 (.tmp 7) (.tmp 98) rfl p7 (by kernel_rfl) (u32s [x + y, t0, t1, t2, t3 + x, t4, t5, t6]) (u32s T) 175 (by rw [← HN.out]; kernel_rfl) Q_b7.out Q_len.out Q_sz.out Q_one.out (fun y1 hb1 ht1 hs1 => ?_); have HQ := Lib.hid (And.intro hb1 ht1); clear hb1 ht1 hs1)
            | fail)
          go_roundw
          case rel => exact ⟨k + 1, by omega, by go_num, by rw [HR.out]; exact HF.out.next ((((Turns.refl [p7] wr).drew).drew.drew).trans HQ.out.2 (by simp)) HQ.out.1⟩
          case measure => (simp [intOf] <;> omega)
        · obtain rfl : k = 64 := by omega
          have HF1 := Lib.hid hf
          have hTl := rounds_len W s hs 64
          have hres : Hid (res = u32s (addL s (rounds W 64 s))) := Lib.hid (by rw [HRES.out, HW.out]; rfl)
          generalize rounds W 64 s = T at HF1 hTl hres
          have hx64 : ¬ ((64 : Nat) : Int) < 64 := by omega
          have HTL := Lib.hid hTl
          clear hf hTl
          go_wp2_with fail
          go_loopw [100] (fun i wr => ∃ j : Nat, j ≤ 8 ∧ i = .int .i64 j ∧ SFr w wr (u32s s) zz (u32s W) (u32s shaK) (u32s (addTo s T j)) p2 (p2 + 1) p5 p6 p7) (fun i _ => 8 - (intOf i).toNat)
          case atStart => exact ⟨0, by omega, rfl, HF1.out⟩
          case round =>
            clear HF1
            obtain ⟨j, hj, rfl, hf⟩ := hrel
            by_cases hlt : j < 8
            · have hal : (addTo s T j).length = 8 := by rw [addTo_len, HTL.out]
              have hst : addTo s T (j + 1) = (addTo s T j).set j ((addTo s T j).getD j 0 + s.getD j 0) := rfl
              generalize addTo s T j = U at hf hal hst
              have cj := hf.b7.cell j
              have fj := hf.b7.free j
              have sj := hf.b2.cell j
              rw [u32s_get U _ (by omega)] at cj
              rw [u32s_get s _ (by omega)] at sj
              generalize U.getD j 0 = uj at cj hst
              generalize s.getD j 0 = vj at sj hst
              have hji : (j : Int) < 8 := by omega
              have hT : Turns [] wr wr.drew := (Turns.refl _ _).drew
              have HS := Lib.hid hst
              have HF := Lib.hid hf
              clear hst hf hal
              go_upto_region 14 with fail
              refine rk0 (fun _ => True) (fun W => Turns [] wr W) 8 9 ?_
              refine rkA 0 103 1 (v := ?_) ?_ (.mk' trivial hT) ?_
              rotate_left
              · intro W hS; go_simp; all_goals with_reducible rfl
              try simp only [sI, sS, sZ]
              refine rkA 1 104 3 (v := ?_) ?_ (.mk' trivial hT) ?_
              rotate_left
              · intro W hS; go_simp; all_goals with_reducible rfl
              try simp only [sI, sS, sZ]
              refine rkT 2 105 7 (v := ?_) ?_ (.mk' trivial hT) ?_
              rotate_left
              · rintro W ⟨-, hS⟩; have c2 := cellL hS cj (by simp); go_simp; all_goals with_reducible rfl
              try simp only [sI, sS, sZ]
              refine rkA 3 106 15 (v := ?_) ?_ (.mk' trivial hT) ?_
              rotate_left
              · intro W hS; go_simp; all_goals with_reducible rfl
              try simp only [sI, sS, sZ]
              refine rkA 4 107 31 (v := ?_) ?_ (.mk' trivial hT) ?_
              rotate_left
              · intro W hS; go_simp; all_goals with_reducible rfl
              try simp only [sI, sS, sZ]
              refine rkT 5 108 63 (v := ?_) ?_ (.mk' trivial hT) ?_
              rotate_left
              · rintro W ⟨-, hS⟩; have c2 := cellL hS sj (by simp); go_simp; all_goals with_reducible rfl
              try simp only [sI, sS, sZ]
              refine rkA 6 109 127 (v := ?_) ?_ (.mk' trivial hT) ?_
              rotate_left
              · intro W hS; go_simp; all_goals with_reducible rfl
              try simp only [sI, sS, sZ]
              refine rkA 7 110 255 (v := ?_) ?_ (.mk' trivial hT) ?_
              rotate_left
              · intro W hS; go_simp; all_goals with_reducible rfl
              try simp only [sI, sS, sZ]
              refine rk1 8 511 (fun K hK => ?_)
              go_simp
              refine hK _ _ (.p trivial) ?_
              clear hK K
              try simp only [sI, sS, sZ]
              refine rkZ ?_
              simp only [wrapAdd]
              have b7 := ((HF.out.b7.set j (.int .u32 ((uj + vj).toNat : Int))).drew)
              rw [u32s_set, ← HS.out] at b7
              have tt := ((Turns.refl [p7] wr).setCell (p := ⟨p7, j, none⟩) (.inl (by simp)) (.int .u32 ((uj + vj).toNat : Int))).drew
              have HN := Lib.hid (HF.out.next tt b7)
              clear b7 tt hT
              go_wp2_with fail
              go_roundw
              case rel => exact ⟨j + 1, by omega, by go_num, HN.out⟩
              case measure => (simp [intOf] <;> omega)
            · obtain rfl : j = 8 := by omega
              have hx8 : ¬ ((8 : Nat) : Int) < 8 := by omega
              rw [addTo_all s T HTL.out] at hf
              obtain ⟨r, hr⟩ : ∃ r, r = u32s (addL s T) := ⟨_, rfl⟩
              have hrl : r.length = 8 := by rw [hr, u32s_length]; simp [addL]
              have hr1 : ∀ u ∈ r, u.oneCell' = true := by rw [hr]; exact u32s_one _
              rw [← hr] at hf hres
              have Q_sz := Lib.hid (show (Tryz.prog.info? 175).map (·.size) = some r.length by rw [size_w8, hrl])
              have Q_len := Lib.hid (show zz.length = r.length by rw [hrl, ← HZ.out.1, zerosW_len])
              have Q_one := Lib.hid hr1
              have HF := Lib.hid hf
              clear hf hr hrl hr1
              go_upto_region 16 with fail
              go_wp2_with (first
                | (refine wpList_load_blk rfl 175 (.tmp 7) rfl p7 (by kernel_rfl) r _ _ HF.out.b7 Tryz.underlying175 rfl Q_sz.out ?_)
                | (refine wpList_store_blk rfl 175 (.tmp 4) (.tmp 112) rfl (p2 + 1) (by kernel_rfl) r zz 175 (by kernel_rfl) HF.out.b4 Q_len.out Q_sz.out Q_one.out (fun y1 hb1 ht1 hs1 => ?_); have HQ := Lib.hid (And.intro hb1 ht1); clear hb1 ht1 hs1)
                | fail)
              refine bodyPost_ret (results_cell_row rfl _ _ (p2 + 1) _ _ _ _ (by kernel_rfl) HQ.out.1 Tryz.underlying175 rfl (by rw [List.size_toArray]; exact Q_sz.out)) rfl ?_
              have hpw := HP.out
              exact ⟨by rw [hres.out], HF.out.turns.trans HQ.out.2 (by intro x hx; simp at hx; exact .inr (by omega))⟩
end Go.Proofs.YtoahnhphfabajaaGreat
