/- A head that says what is not there: WalHeads. -/
import Derived.Test.YtdhbaepmbgoobaaWHeadL
import Derived.Test.YtdhbaepmbgoobaaWKn
import Derived.Test.YtdhbaepmbgoobaaWithinL
namespace Go.Proofs.Ytdhbaepmbgoobaa
open Go.RowKit
set_option linter.unusedVariables false
set_option maxRecDepth 10000
set_option linter.unusedSimpArgs false
set_option linter.unnecessarySimpa false

theorem At.sls {w0 w : World} {B g p n : Nat} {st : DS} {X : List Nat} {v : Value} {ls : List (List UInt8)} (h : At w0 w B g p st X) (hs : Sls w0 w0.heap.size v n ls) : Sls w w.heap.size v n ls := (hs.below h.bel).more h.bel.size
/-- The loop: the disk holds a log of the first of them. -/
def HdR (w0 : World) (B g p nl gl : Nat) (ls : List (List UInt8)) (s i : Value) (wr : World) : Prop :=
  ∃ (k size : Nat) (st : DS), k ≤ nl ∧ k ≤ 6 ∧ s = .int .i64 size ∧ i = .int .i64 k ∧ At w0 wr B g p st [gl] ∧ Blk wr gl (LG g size k) 86 ∧ Calm st ∧ Img st.now p size (ls.take k) ∧ size ≤ 68 * k ∧ 8 * k ≤ size

set_option maxRecDepth 100000 in
set_option maxHeartbeats 8000000 in
theorem WalHeads_walk (Al : Option Addr) (nl cl : Nat) (ls : List (List UInt8)) (zn zk : Int) (w : World)
    (hl : Sls w w.heap.size (.slice Al nl cl) nl ls) (hzn : -9223372036854775808 ≤ zn ∧ zn ≤ 9223372036854775807) (hzk : -9223372036854775808 ≤ zk ∧ zk ≤ 9223372036854775807) :
    Calls Try.prog 8 #[.slice Al nl cl, .int .i64 zn, .int .i64 zk] w fun e w' => e = .returned (.bool true) ∧ Below w.heap.size w w' := by
  have KN := Lib.hid (known_any w)
  have hlen : ls.length = nl := by obtain ⟨_, h, _⟩ := hl; exact h
  have hcl : nl ≤ cl ∧ cl ≤ 9223372036854775807 := by
    obtain ⟨A, c, e, h1, h2⟩ := hl.form
    injection e with _ _ e3
    subst e3
    unfold maxLen at h2
    omega
  have WN := Lib.hid fun (W : World) => within_any zn 3 W hzn.1 hzn.2 (by omega) (by omega)
  have WK := Lib.hid fun (W : World) => within_any zk 3 W hzk.1 hzk.2 (by omega) (by omega)
  obtain ⟨zm, hzm⟩ : ∃ zm : Nat, zn % 3 = (zm : Int) := ⟨(zn % 3).toNat, by omega⟩
  obtain ⟨km, hkm⟩ : ∃ km : Nat, zk % 3 = (km : Int) := ⟨(zk % 3).toNat, by omega⟩
  have hzm9 : zm ≤ 2 := by omega
  have hkm9 : km ≤ 2 := by omega
  rw [hzm] at WN
  rw [hkm] at WK
  have HL := Lib.hid (And.intro hl hlen)
  clear hl hlen hzn hzk hzm hkm
  go_enter Try.func8, Try.ntmps8
  go_wp2_with fail
  refine KN.out.mono ?_
  rintro e w1 ⟨rfl, t1⟩
  have H1 := Lib.hid (Turns.below (B := w.heap.size) t1 (Nat.le_refl _) (by simp))
  clear KN t1
  go_wp2_with fail
  refine (New_at (w0 := w) (w := w1) 20 (by omega) (by omega) H1.out).mono ?_
  rintro e w2 ⟨B, g, rfl, a2, b2⟩
  have OP := Lib.hid (Open_img a2 rfl (img_fresh 20 (by omega)))
  clear a2 b2
  go_wp2_with fail
  refine OP.out.mono ?_
  rintro e w3 ⟨gl, A, n, c, rfl, hgx, a3, s3, bl3, sls3⟩
  have H3 := Lib.hid (And.intro a3 bl3)
  clear a3 s3 bl3 sls3 OP hgx
  go_wp2_with fail
  go_loopw [12, 13] (fun s i wr => HdR w B g 20 nl gl ls s i wr) (fun _ i _ => 6 - (intOf i).toNat)
  case atStart => exact ⟨0, 0, fresh 20, by omega, by omega, rfl, rfl, H3.out.1, H3.out.2, calm_fresh 20, img_fresh 20 (by omega), by omega, by omega⟩
  case round =>
    obtain ⟨k, size, st, hk1, hk6, rfl, rfl, at4, bl4, cm4, im4, hsz, hsz8⟩ := hrel
    obtain ⟨Y, hY⟩ : ∃ Y, Y = wr := ⟨_, rfl⟩
    subst hY
    by_cases hk : k < nl ∧ k < 6
    · obtain ⟨hka, hkb⟩ := hk
      have hkI : (k : Int) < nl := by omega
      have hkJ : (k : Int) < 6 := by omega
      have HLn := HL.out.2
      obtain ⟨b5, o5, c5, n5, A5, l5, ⟨c5', hv5, _⟩, hb5, hd5, hl5, hn5, hs5w⟩ := HL.out.1.get hka
      injection hv5 with e5 _ e6
      subst e5 e6
      have hc5 := (at4.bel.cell (p := ⟨b5, o5 + k, none⟩) hb5).trans hd5
      have hs5 := at4.arg hs5w
      have htk : ls.take (k + 1) = ls.take k ++ [l5] := by rw [List.take_add_one, hl5]; rfl
      have htl : (ls.take k).length = k := by rw [List.length_take]; omega
      have HTK := Lib.hid (And.intro htk htl)
      have hn5b : n5 ≤ 9223372036854775807 := by
        obtain ⟨_, _, _, ee, h1, h2, _⟩ := hs5
        injection ee with _ _ e3
        subst e3
        unfold maxLen at h2
        omega
      by_cases h60 : 60 < n5
      · have h60I : (60 : Int) < n5 := by omega
        have HF := Lib.hid at4.bel
        clear at4 bl4 cm4 im4 hs5 hl5 HLn htk htl
        go_wp2_with fail
        go_ret
        exact ⟨rfl, HF.out⟩
      · have h60I : (n5 : Int) ≤ 60 := by omega
        obtain rfl : l5.length = n5 := hn5
        have AP := Append_calm at4 (by simp) size (ls.take k) (by rw [htl]; exact bl4) A5 c5 l5 hs5 cm4 im4 (by omega) (by omega)
        replace AP := Lib.hid AP
        have hcw := Lib.hid fun (W : World) (hbel : Below w.heap.size w W) => (hbel.cell (p := ⟨b5, o5 + k, none⟩) hb5).trans hd5
        clear at4 bl4 cm4 im4 hs5 hs5w hd5 hl5 HLn htk htl
        go_wp2_with fail
        refine AP.out.mono ?_
        rintro e y6 ⟨rfl, ⟨st6, a6, k6, i6⟩, s6, bl6⟩
        rw [← HTK.out.1] at i6
        rw [HTK.out.2] at bl6
        have hc6 := hcw.out y6 a6.bel
        have HF := Lib.hid (And.intro a6 (And.intro bl6 (And.intro k6 i6)))
        clear AP a6 k6 i6 s6 bl6
        go_wp2_with fail
        go_roundw
        case rel => exact ⟨k + 1, size + 8 + l5.length, st6, by omega, by omega, by go_num, by go_num, HF.out.1, HF.out.2.1, HF.out.2.2.1, HF.out.2.2.2, by omega, by omega⟩
        case measure => (simp [intOf] <;> omega)
    · have h3 : k = nl ∨ (k < nl ∧ k = 6) := by omega
      clear hk
      have HI := Lib.hid (And.intro at4 (And.intro cm4 im4))
      clear at4 bl4 cm4 im4
      rcases h3 with rfl | ⟨hka, rfl⟩
      case' inr => have hkI : ((6 : Nat) : Int) < nl := by omega
      case' inl => have hkI : (k : Int) ≤ 6 := by omega
      · skip
        go_wp2_with fail
        refine (WN.out Y).mono ?_
        rintro e ww ⟨rfl, rfl⟩
        go_wp2_with fail
        refine (WK.out Y).mono ?_
        rintro e ww ⟨rfl, rfl⟩
        have HB := Lib.hid HI.out.1.bel
        by_cases hs0 : size = 0
        · obtain rfl : k = 0 := by omega
          subst hs0
          by_cases hz0 : zm = 0
          · subst hz0
            go_wp2_with fail
            go_ret
            exact ⟨rfl, HB.out⟩
          · have hz1 : (1 : Int) ≤ zm := by omega
            by_cases hk0 : km = 0
            · subst hk0
              go_wp2_with fail
              go_ret
              exact ⟨rfl, HB.out⟩
            · have hk1 : (1 : Int) ≤ km := by omega
              obtain ⟨S, hS⟩ : ∃ S : Nat, ((zm : Int) - 1) = S := ⟨zm - 1, by omega⟩
              obtain ⟨K, hK⟩ : ∃ K : Nat, ((km : Int) - 1) = K := ⟨km - 1, by omega⟩
              have hSb : S ≤ 500 := by omega
              have hKb : K ≤ 7 := by omega
              have HSK := Lib.hid (And.intro hS hK)
              have hmk : (Instr.makeSlice 34 (.int .i64 16) (.int .i64 16)).run Try.prog Y = .ok (.slice (some ⟨Y.heap.size, 0, none⟩) 16 16) (Y.alloc (.cells (bvs (zeros 16)).toArray 5)) := run_make_u8 16 (by omega) Y
              obtain ⟨Y2, hY2⟩ : ∃ Y2, Y2 = Y.alloc (.cells (bvs (zeros 16)).toArray 5) := ⟨_, rfl⟩
              have bz := Blk.new Y (bvs (zeros 16)) 5
              rw [← hY2] at hmk bz
              obtain ⟨yb, hyb⟩ : ∃ yb, yb = Y.heap.size := ⟨_, rfl⟩
              rw [← hyb] at hmk bz
              have q0 : Y2.cell? ⟨yb, 0, none⟩ = some (.int .u8 0) := bz.cell 0
              have q1 : Y2.cell? ⟨yb, 1, none⟩ = some (.int .u8 0) := bz.cell 1
              have q8 : Y2.cell? ⟨yb, 8, none⟩ = some (.int .u8 0) := bz.cell 8
              have f0 := bz.free 0
              have f1 := bz.free 1
              have f8 := bz.free 8
              have HY := Lib.hid (And.intro hY2 (And.intro hyb bz))
              clear hS hK hY2 hyb bz
              go_upto_region 18 with fail
              clear hsz8
              go_wp2_with fail
              rw [HSK.out.1, HSK.out.2]
              obtain ⟨Y3, hY3⟩ : ∃ Y3, Y3 = ((Y2.setCell ⟨yb, 0, none⟩ (.int .u8 (S : Int))).setCell ⟨yb, 1, none⟩ (.int .u8 ((S : Int) / 256))).setCell ⟨yb, 8, none⟩ (.int .u8 (K : Int)) := ⟨_, rfl⟩
              have T3 : Turns [yb] Y2 Y3 := by rw [hY3]; exact (((Turns.refl [yb] Y2).setCell (p := ⟨yb, 0, none⟩) (.inl (by simp)) _).setCell (p := ⟨yb, 1, none⟩) (.inl (by simp)) _).setCell (p := ⟨yb, 8, none⟩) (.inl (by simp)) _
              have b3 := ((HY.out.2.2.set 0 (.int .u8 (S : Int))).set 1 (.int .u8 ((S : Int) / 256))).set 8 (.int .u8 (K : Int))
              rw [← hY3, show (Value.int .u8 (S : Int)) = .int .u8 ((S : Int) % 256) by congr 1; have := HSK.out.1; omega, head_cells S K (by omega) (by omega)] at b3
              have a3 := (HI.out.1.alloc (.cells (bvs (zeros 16)).toArray 5))
              rw [← HY.out.1, ← HY.out.2.1] at a3
              have a4 := a3.turn T3 (by simp)
              have s3 : Sl Y3 Y3.heap.size 1 (.slice (some ⟨yb, 0, none⟩) 16 16) (headB S K).length (bvs (headB S K)) := by
                have h := b3.slice 0 16 16 (by rw [bvs_length, headB_len]; omega) (Nat.le_refl _) (by simp [maxLen])
                rw [List.drop_zero, List.take_of_length_le (by rw [bvs_length, headB_len]; omega)] at h
                rw [headB_len]; exact h
              have TM := Lib.hid (Tamper_at a4 0 0 (.slice (some ⟨yb, 0, none⟩) 16 16) (headB S K) s3 (fun x hx => by simp [Value.ownBlock] at hx; subst hx; simp) (by omega) (by omega) (by rw [headB_len]; omega))
              have htl : (ls.take 0).length = 0 := by rw [List.length_take]; have := HL.out.2; omega
              have HW := heads_law st.now 0 (ls.take 0) HI.out.2.2 S K (st.tamper 0 0 (headB S K)) rfl (by have := HSK.out.1; omega) (by have := HSK.out.1; omega) (by have := HSK.out.2; omega) (by have := HSK.out.2; omega) (by omega)
              rw [htl] at HW
              have d5 : (st.tamper 0 0 (headB S K)).dead = false := HI.out.2.1.dead
              rw [← hY3]
              obtain ⟨st5, hst5⟩ : ∃ s, s = st.tamper 0 0 (headB S K) := ⟨_, rfl⟩
              rw [← hst5] at TM HW d5
              have HW := Lib.hid (And.intro d5 (And.intro HW htl))
              clear T3 b3 a3 a4 s3 htl d5 hY3 hst5 q0 q1 q8 f0 f1 f8 hmk
              refine TM.out.mono ?_
              rintro e Y4 ⟨rfl, a5, s5⟩
              have SC := Lib.hid (Scan_at a5)
              clear a5 s5 TM
              go_wp2_with fail
              refine SC.out.mono ?_
              rintro e Y5 ⟨sc, a6, s6⟩
              by_cases hfine : S = 0 ∧ K = 0
              · have hb := HW.out.2.1.1.2 hfine
                obtain ⟨A8, n8, c8, rfl, sl8⟩ := sc.good HW.out.1 hb
                rw [HW.out.2.1.2.1 hfine] at sl8
                obtain rfl : n8 = 0 := by obtain ⟨_, h, _⟩ := sl8; rw [← h, HW.out.2.2]
                have OP := Lib.hid (Open_at a6 HW.out.1 hb)
                obtain ⟨hf1, hf2⟩ := hfine
                subst hf1 hf2
                clear a6 s6 sc sl8 hb SC
                go_wp2_with fail
                refine OP.out.mono ?_
                rintro e Y6 ⟨gl2, A2, n2, c2, rfl, _, a7, _, _, _⟩
                have HB2 := Lib.hid a7.bel
                clear a7 OP
                go_wp2_with fail
                go_ret
                exact ⟨rfl, HB2.out⟩
              · have hb : st5.look.bad = true := by
                  cases h : st5.look.bad
                  · exact absurd (HW.out.2.1.1.1 h) hfine
                  · rfl
                obtain ⟨A8, n8, c8, rfl, sl8⟩ := sc.bad HW.out.1 hb
                have hn8 : n8 = if S < 0 then 0 - 1 else 0 := by
                  have h2 := HW.out.2.1.2.2
                  obtain ⟨_, h, _⟩ := sl8
                  rw [← h]
                  exact h2
                have OP := Lib.hid (Open_no a6 HW.out.1 hb)
                have h4 : (S = 1 ∧ n8 = 0) ∨ (S = 0 ∧ K = 1 ∧ n8 = 0) := by
                  have h1 := HSK.out.1
                  have h2 := HSK.out.2
                  split at hn8 <;> omega
                clear a6 s6 sc sl8 hfine hb SC hn8
                have hn8I : (n8 : Int) ≤ 10 := by omega
                rcases h4 with ⟨rfl, h5⟩ | ⟨rfl, rfl, h5⟩
                case' inl => subst h5
                case' inr => subst h5
                all_goals
                  go_wp2_with fail
                  refine OP.out.mono ?_
                  rintro e Y6 ⟨rfl, a7, _⟩
                  have HB2 := Lib.hid a7.bel
                  clear a7 OP
                  go_wp2_with fail
                  go_ret
                  exact ⟨rfl, HB2.out⟩
        · have hs1 : 0 < (size : Int) := by omega
          have hk1 : 0 < (k : Int) := by omega
          obtain ⟨S, hS⟩ : ∃ S : Nat, (size : Int) + ((zm : Int) - 1) = S := ⟨size + zm - 1, by omega⟩
          obtain ⟨K, hK⟩ : ∃ K : Nat, (k : Int) + ((km : Int) - 1) = K := ⟨k + km - 1, by omega⟩
          have hSb : S ≤ 500 := by omega
          have hKb : K ≤ 7 := by omega
          have HSK := Lib.hid (And.intro hS hK)
          have hmk : (Instr.makeSlice 34 (.int .i64 16) (.int .i64 16)).run Try.prog Y = .ok (.slice (some ⟨Y.heap.size, 0, none⟩) 16 16) (Y.alloc (.cells (bvs (zeros 16)).toArray 5)) := run_make_u8 16 (by omega) Y
          obtain ⟨Y2, hY2⟩ : ∃ Y2, Y2 = Y.alloc (.cells (bvs (zeros 16)).toArray 5) := ⟨_, rfl⟩
          have bz := Blk.new Y (bvs (zeros 16)) 5
          rw [← hY2] at hmk bz
          obtain ⟨yb, hyb⟩ : ∃ yb, yb = Y.heap.size := ⟨_, rfl⟩
          rw [← hyb] at hmk bz
          have q0 : Y2.cell? ⟨yb, 0, none⟩ = some (.int .u8 0) := bz.cell 0
          have q1 : Y2.cell? ⟨yb, 1, none⟩ = some (.int .u8 0) := bz.cell 1
          have q8 : Y2.cell? ⟨yb, 8, none⟩ = some (.int .u8 0) := bz.cell 8
          have f0 := bz.free 0
          have f1 := bz.free 1
          have f8 := bz.free 8
          have HY := Lib.hid (And.intro hY2 (And.intro hyb bz))
          clear hS hK hY2 hyb bz
          go_upto_region 18 with fail
          clear hsz8
          go_wp2_with fail
          rw [HSK.out.1, HSK.out.2]
          obtain ⟨Y3, hY3⟩ : ∃ Y3, Y3 = ((Y2.setCell ⟨yb, 0, none⟩ (.int .u8 ((S : Int) % 256))).setCell ⟨yb, 1, none⟩ (.int .u8 ((S : Int) / 256))).setCell ⟨yb, 8, none⟩ (.int .u8 (K : Int)) := ⟨_, rfl⟩
          have T3 : Turns [yb] Y2 Y3 := by rw [hY3]; exact (((Turns.refl [yb] Y2).setCell (p := ⟨yb, 0, none⟩) (.inl (by simp)) _).setCell (p := ⟨yb, 1, none⟩) (.inl (by simp)) _).setCell (p := ⟨yb, 8, none⟩) (.inl (by simp)) _
          have b3 := ((HY.out.2.2.set 0 (.int .u8 ((S : Int) % 256))).set 1 (.int .u8 ((S : Int) / 256))).set 8 (.int .u8 (K : Int))
          rw [← hY3, head_cells S K (by omega) (by omega)] at b3
          have a3 := (HI.out.1.alloc (.cells (bvs (zeros 16)).toArray 5))
          rw [← HY.out.1, ← HY.out.2.1] at a3
          have a4 := a3.turn T3 (by simp)
          have s3 : Sl Y3 Y3.heap.size 1 (.slice (some ⟨yb, 0, none⟩) 16 16) (headB S K).length (bvs (headB S K)) := by
            have h := b3.slice 0 16 16 (by rw [bvs_length, headB_len]; omega) (Nat.le_refl _) (by simp [maxLen])
            rw [List.drop_zero, List.take_of_length_le (by rw [bvs_length, headB_len]; omega)] at h
            rw [headB_len]; exact h
          have TM := Lib.hid (Tamper_at a4 0 0 (.slice (some ⟨yb, 0, none⟩) 16 16) (headB S K) s3 (fun x hx => by simp [Value.ownBlock] at hx; subst hx; simp) (by omega) (by omega) (by rw [headB_len]; omega))
          have htl : (ls.take k).length = k := by rw [List.length_take]; have := HL.out.2; omega
          have HW := heads_law st.now size (ls.take k) HI.out.2.2 S K (st.tamper 0 0 (headB S K)) rfl (by have := HSK.out.1; omega) (by have := HSK.out.1; omega) (by have := HSK.out.2; omega) (by have := HSK.out.2; omega) (by omega)
          rw [htl] at HW
          have d5 : (st.tamper 0 0 (headB S K)).dead = false := HI.out.2.1.dead
          rw [← hY3]
          obtain ⟨st5, hst5⟩ : ∃ s, s = st.tamper 0 0 (headB S K) := ⟨_, rfl⟩
          rw [← hst5] at TM HW d5
          have HW := Lib.hid (And.intro d5 (And.intro HW htl))
          clear T3 b3 a3 a4 s3 htl d5 hY3 hst5 q0 q1 q8 f0 f1 f8 hmk
          refine TM.out.mono ?_
          rintro e Y4 ⟨rfl, a5, s5⟩
          have SC := Lib.hid (Scan_at a5)
          clear a5 s5 TM
          go_wp2_with fail
          refine SC.out.mono ?_
          rintro e Y5 ⟨sc, a6, s6⟩
          by_cases hfine : S = size ∧ K = k
          · have hb := HW.out.2.1.1.2 hfine
            obtain ⟨A8, n8, c8, rfl, sl8⟩ := sc.good HW.out.1 hb
            rw [HW.out.2.1.2.1 hfine] at sl8
            obtain rfl : n8 = k := by obtain ⟨_, h, _⟩ := sl8; rw [← h, HW.out.2.2]
            have OP := Lib.hid (Open_at a6 HW.out.1 hb)
            obtain rfl : zm = 1 := by have := HSK.out.1; omega
            obtain rfl : km = 1 := by have := HSK.out.2; omega
            clear a6 s6 sc sl8 hfine hb SC
            go_wp2_with fail
            refine OP.out.mono ?_
            rintro e Y6 ⟨gl2, A2, n2, c2, rfl, _, a7, _, _, _⟩
            have HB2 := Lib.hid a7.bel
            clear a7 OP
            go_wp2_with fail
            go_ret
            exact ⟨rfl, HB2.out⟩
          · have hb : st5.look.bad = true := by
              cases h : st5.look.bad
              · exact absurd (HW.out.2.1.1.1 h) hfine
              · rfl
            obtain ⟨A8, n8, c8, rfl, sl8⟩ := sc.bad HW.out.1 hb
            have hn8 : n8 = if S < size then k - 1 else k := by
              have h2 := HW.out.2.1.2.2
              obtain ⟨_, h, _⟩ := sl8
              rw [← h]
              exact h2
            have OP := Lib.hid (Open_no a6 HW.out.1 hb)
            have h4 : (zm = 0 ∧ n8 + 1 = k) ∨ (zm = 2 ∧ n8 = k) ∨ (zm = 1 ∧ km = 0 ∧ n8 = k) ∨ (zm = 1 ∧ km = 2 ∧ n8 = k) := by
              have h1 := HSK.out.1
              have h2 := HSK.out.2
              split at hn8 <;> omega
            clear a6 s6 sc sl8 hfine hb SC hn8
            have hn8I : (n8 : Int) ≤ 10 := by omega
            rcases h4 with ⟨rfl, h5⟩ | ⟨rfl, h5⟩ | ⟨rfl, rfl, h5⟩ | ⟨rfl, rfl, h5⟩
            case' inl => have h6 : (n8 : Int) = (k : Nat) - 1 := by omega
            case' inr.inl => have h6 : (n8 : Int) = (k : Nat) := by omega
            case' inr.inr.inl => have h6 : (n8 : Int) = (k : Nat) := by omega
            case' inr.inr.inr => have h6 : (n8 : Int) = (k : Nat) := by omega
            all_goals
              go_wp2_with fail
              refine OP.out.mono ?_
              rintro e Y6 ⟨rfl, a7, _⟩
              have HB2 := Lib.hid a7.bel
              clear a7 OP h5
              go_wp2_with fail
              go_ret
              exact ⟨rfl, HB2.out⟩
      · skip
        go_wp2_with fail
        refine (WN.out Y).mono ?_
        rintro e ww ⟨rfl, rfl⟩
        go_wp2_with fail
        refine (WK.out Y).mono ?_
        rintro e ww ⟨rfl, rfl⟩
        have HB := Lib.hid HI.out.1.bel
        have hs1 : 0 < (size : Int) := by omega
        obtain ⟨S, hS⟩ : ∃ S : Nat, (size : Int) + ((zm : Int) - 1) = S := ⟨size + zm - 1, by omega⟩
        obtain ⟨K, hK⟩ : ∃ K : Nat, (6 : Int) + ((km : Int) - 1) = K := ⟨6 + km - 1, by omega⟩
        have hSb : S ≤ 500 := by omega
        have hKb : K ≤ 7 := by omega
        have HSK := Lib.hid (And.intro hS hK)
        have hmk : (Instr.makeSlice 34 (.int .i64 16) (.int .i64 16)).run Try.prog Y = .ok (.slice (some ⟨Y.heap.size, 0, none⟩) 16 16) (Y.alloc (.cells (bvs (zeros 16)).toArray 5)) := run_make_u8 16 (by omega) Y
        obtain ⟨Y2, hY2⟩ : ∃ Y2, Y2 = Y.alloc (.cells (bvs (zeros 16)).toArray 5) := ⟨_, rfl⟩
        have bz := Blk.new Y (bvs (zeros 16)) 5
        rw [← hY2] at hmk bz
        obtain ⟨yb, hyb⟩ : ∃ yb, yb = Y.heap.size := ⟨_, rfl⟩
        rw [← hyb] at hmk bz
        have q0 : Y2.cell? ⟨yb, 0, none⟩ = some (.int .u8 0) := bz.cell 0
        have q1 : Y2.cell? ⟨yb, 1, none⟩ = some (.int .u8 0) := bz.cell 1
        have q8 : Y2.cell? ⟨yb, 8, none⟩ = some (.int .u8 0) := bz.cell 8
        have f0 := bz.free 0
        have f1 := bz.free 1
        have f8 := bz.free 8
        have HY := Lib.hid (And.intro hY2 (And.intro hyb bz))
        clear hS hK hY2 hyb bz
        go_upto_region 18 with fail
        clear hsz8
        go_wp2_with fail
        rw [HSK.out.1, HSK.out.2]
        obtain ⟨Y3, hY3⟩ : ∃ Y3, Y3 = ((Y2.setCell ⟨yb, 0, none⟩ (.int .u8 ((S : Int) % 256))).setCell ⟨yb, 1, none⟩ (.int .u8 ((S : Int) / 256))).setCell ⟨yb, 8, none⟩ (.int .u8 (K : Int)) := ⟨_, rfl⟩
        have T3 : Turns [yb] Y2 Y3 := by rw [hY3]; exact (((Turns.refl [yb] Y2).setCell (p := ⟨yb, 0, none⟩) (.inl (by simp)) _).setCell (p := ⟨yb, 1, none⟩) (.inl (by simp)) _).setCell (p := ⟨yb, 8, none⟩) (.inl (by simp)) _
        have b3 := ((HY.out.2.2.set 0 (.int .u8 ((S : Int) % 256))).set 1 (.int .u8 ((S : Int) / 256))).set 8 (.int .u8 (K : Int))
        rw [← hY3, head_cells S K (by omega) (by omega)] at b3
        have a3 := (HI.out.1.alloc (.cells (bvs (zeros 16)).toArray 5))
        rw [← HY.out.1, ← HY.out.2.1] at a3
        have a4 := a3.turn T3 (by simp)
        have s3 : Sl Y3 Y3.heap.size 1 (.slice (some ⟨yb, 0, none⟩) 16 16) (headB S K).length (bvs (headB S K)) := by
          have h := b3.slice 0 16 16 (by rw [bvs_length, headB_len]; omega) (Nat.le_refl _) (by simp [maxLen])
          rw [List.drop_zero, List.take_of_length_le (by rw [bvs_length, headB_len]; omega)] at h
          rw [headB_len]; exact h
        have TM := Lib.hid (Tamper_at a4 0 0 (.slice (some ⟨yb, 0, none⟩) 16 16) (headB S K) s3 (fun x hx => by simp [Value.ownBlock] at hx; subst hx; simp) (by omega) (by omega) (by rw [headB_len]; omega))
        have htl : (ls.take 6).length = 6 := by rw [List.length_take]; have := HL.out.2; omega
        have HW := heads_law st.now size (ls.take 6) HI.out.2.2 S K (st.tamper 0 0 (headB S K)) rfl (by have := HSK.out.1; omega) (by have := HSK.out.1; omega) (by have := HSK.out.2; omega) (by have := HSK.out.2; omega) (by omega)
        rw [htl] at HW
        have d5 : (st.tamper 0 0 (headB S K)).dead = false := HI.out.2.1.dead
        rw [← hY3]
        obtain ⟨st5, hst5⟩ : ∃ s, s = st.tamper 0 0 (headB S K) := ⟨_, rfl⟩
        rw [← hst5] at TM HW d5
        have HW := Lib.hid (And.intro d5 (And.intro HW htl))
        clear T3 b3 a3 a4 s3 htl d5 hY3 hst5 q0 q1 q8 f0 f1 f8 hmk
        refine TM.out.mono ?_
        rintro e Y4 ⟨rfl, a5, s5⟩
        have SC := Lib.hid (Scan_at a5)
        clear a5 s5 TM
        go_wp2_with fail
        refine SC.out.mono ?_
        rintro e Y5 ⟨sc, a6, s6⟩
        by_cases hfine : S = size ∧ K = 6
        · have hb := HW.out.2.1.1.2 hfine
          obtain ⟨A8, n8, c8, rfl, sl8⟩ := sc.good HW.out.1 hb
          rw [HW.out.2.1.2.1 hfine] at sl8
          obtain rfl : n8 = 6 := by obtain ⟨_, h, _⟩ := sl8; rw [← h, HW.out.2.2]
          have OP := Lib.hid (Open_at a6 HW.out.1 hb)
          obtain rfl : zm = 1 := by have := HSK.out.1; omega
          obtain rfl : km = 1 := by have := HSK.out.2; omega
          clear a6 s6 sc sl8 hfine hb SC
          go_wp2_with fail
          refine OP.out.mono ?_
          rintro e Y6 ⟨gl2, A2, n2, c2, rfl, _, a7, _, _, _⟩
          have HB2 := Lib.hid a7.bel
          clear a7 OP
          go_wp2_with fail
          go_ret
          exact ⟨rfl, HB2.out⟩
        · have hb : st5.look.bad = true := by
            cases h : st5.look.bad
            · exact absurd (HW.out.2.1.1.1 h) hfine
            · rfl
          obtain ⟨A8, n8, c8, rfl, sl8⟩ := sc.bad HW.out.1 hb
          have hn8 : n8 = if S < size then 6 - 1 else 6 := by
            have h2 := HW.out.2.1.2.2
            obtain ⟨_, h, _⟩ := sl8
            rw [← h]
            exact h2
          have OP := Lib.hid (Open_no a6 HW.out.1 hb)
          have h4 : (zm = 0 ∧ n8 + 1 = 6) ∨ (zm = 2 ∧ n8 = 6) ∨ (zm = 1 ∧ km = 0 ∧ n8 = 6) ∨ (zm = 1 ∧ km = 2 ∧ n8 = 6) := by
            have h1 := HSK.out.1
            have h2 := HSK.out.2
            split at hn8 <;> omega
          clear a6 s6 sc sl8 hfine hb SC hn8
          have hn8I : (n8 : Int) ≤ 10 := by omega
          rcases h4 with ⟨rfl, h5⟩ | ⟨rfl, h5⟩ | ⟨rfl, rfl, h5⟩ | ⟨rfl, rfl, h5⟩
          case' inl => have h6 : (n8 : Int) = (6 : Nat) - 1 := by omega
          case' inr.inl => have h6 : (n8 : Int) = (6 : Nat) := by omega
          case' inr.inr.inl => have h6 : (n8 : Int) = (6 : Nat) := by omega
          case' inr.inr.inr => have h6 : (n8 : Int) = (6 : Nat) := by omega
          all_goals
            go_wp2_with fail
            refine OP.out.mono ?_
            rintro e Y6 ⟨rfl, a7, _⟩
            have HB2 := Lib.hid a7.bel
            clear a7 OP h5
            go_wp2_with fail
            go_ret
            exact ⟨rfl, HB2.out⟩
end Go.Proofs.Ytdhbaepmbgoobaa
