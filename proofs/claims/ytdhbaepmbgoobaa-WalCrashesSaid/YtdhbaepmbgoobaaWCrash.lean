/- Wherever the power goes within an append: WalCrashes. -/
import Derived.Test.YtdhbaepmbgoobaaWKn
import Derived.Test.YtdhbaepmbgoobaaWRws
import Derived.Test.YtdhbaepmbgoobaaWithinL
namespace Go.Proofs.Ytdhbaepmbgoobaa
open Go.RowKit
set_option linter.unusedVariables false
set_option maxRecDepth 10000
set_option linter.unusedSimpArgs false
set_option linter.unnecessarySimpa false

theorem Sls.to {w : World} {B n c k : Nat} {A : Option Addr} {ls : List (List UInt8)} (h : Sls w B (.slice A n c) n ls) (hk : k ≤ n) : Sls w B (.slice A k c) k (ls.take k) := by
  obtain ⟨vs, h1, h2, h3⟩ := h
  refine ⟨vs.take k, by rw [List.length_take]; omega, h2.to hk, fun j u hu => ?_⟩
  rw [List.getElem?_take] at hu
  split at hu
  · rename_i hj
    obtain ⟨l, hl, hs⟩ := h3 j u hu
    exact ⟨l, by rw [List.getElem?_take, if_pos hj]; exact hl, hs⟩
  · cases hu
theorem At.sls {w0 w : World} {B g p n : Nat} {st : DS} {X : List Nat} {v : Value} {ls : List (List UInt8)} (h : At w0 w B g p st X) (hs : Sls w0 w0.heap.size v n ls) : Sls w w.heap.size v n ls := (hs.below h.bel).more h.bel.size
theorem run_to2 (A : Option Addr) (n c k : Nat) (hk : k ≤ n) (hc : n ≤ c) (w : World) : (Instr.sliceAt 30 (.slice A n c) none (some (.int .i64 (k : Int))) none).run Try.prog w = .ok (.slice A k c) w := by
  have z1 : (k : Int) ≤ (c : Int) := by omega
  have z2 : k ≤ c := by omega
  go_simp
/-- The loop: the disk holds a log of the first of them. -/
def CrR (w0 : World) (B g p nl gl : Nat) (ls : List (List UInt8)) (i : Value) (wr : World) : Prop :=
  ∃ (k size : Nat) (st : DS), k ≤ nl ∧ i = .int .i64 k ∧ At w0 wr B g p st [gl] ∧ Blk wr gl (LG g size k) 86 ∧ Calm st ∧ Img st.now p size (ls.take k) ∧ size ≤ 68 * k
/-- What comes back behind a crash. -/
def Back (ls : List (List UInt8)) (b : List UInt8) (c n : Int) (recs : List (List UInt8)) : Prop :=
  (recs = ls ∧ c = 15 ∧ n = (ls.length : Int)) ∨ (recs = ls ++ [b] ∧ ((c = 15 ∧ n = (ls.length : Int)) ∨ (c = 0 ∧ n = (ls.length : Int) + 1)))

set_option maxRecDepth 100000 in
set_option maxHeartbeats 8000000 in
theorem WalCrashes_walk (Al Ab Ap : Option Addr) (nl cl cb cp : Nat) (ls : List (List UInt8)) (bs : List UInt8) (za : Int) (ps : List Int) (w : World)
    (hl : Sls w w.heap.size (.slice Al nl cl) nl ls) (hb : Sl w w.heap.size 1 (.slice Ab bs.length cb) bs.length (bvs bs)) (hza : -9223372036854775808 ≤ za ∧ za ≤ 9223372036854775807)
    (hp : Sl w w.heap.size 1 (.slice Ap ps.length cp) ps.length (ps.map (Value.int .i64))) (hps : ∀ z ∈ ps, -9223372036854775808 ≤ z ∧ z ≤ 9223372036854775807) :
    Calls Try.prog 7 #[.slice Al nl cl, .slice Ab bs.length cb, .int .i64 za, .slice Ap ps.length cp] w fun e w' => e = .returned (.bool true) ∧ Below w.heap.size w w' := by
  have KN := Lib.hid (known_any w)
  have hlen : ls.length = nl := by obtain ⟨_, h, _⟩ := hl; exact h
  have hcl : nl ≤ cl ∧ cl ≤ 9223372036854775807 := by
    obtain ⟨A, c, e, h1, h2⟩ := hl.form
    injection e with _ _ e3
    subst e3
    unfold maxLen at h2
    omega
  have hcb : bs.length ≤ 9223372036854775807 := by
    obtain ⟨_, _, _, ee, h1, h2, _⟩ := hb
    injection ee with _ _ e3
    subst e3
    unfold maxLen at h2
    omega
  have WI := Lib.hid fun (W : World) => within_any za 9 W hza.1 hza.2 (by omega) (by omega)
  obtain ⟨zm, hzm⟩ : ∃ zm : Nat, za % 9 = (zm : Int) := ⟨(za % 9).toNat, by omega⟩
  have hzm9 : zm ≤ 8 := by omega
  rw [hzm] at WI
  have HL := Lib.hid (And.intro hl (And.intro hb hlen))
  have HP := Lib.hid (And.intro hp hps)
  clear hl hb hlen hp hps hza hzm
  by_cases h8 : nl ≤ 8 ∧ bs.length ≤ 200
  case neg =>
    have h3 : 8 < nl ∨ (nl ≤ 8 ∧ 200 < bs.length) := by omega
    clear h8
    rcases h3 with h3 | ⟨h3, h4⟩
    case' inl => have h3I : (8 : Int) < nl := by omega
    case' inr => have h3I : (nl : Int) ≤ 8 := by omega
    case' inr => have h4I : (200 : Int) < bs.length := by omega
    all_goals
      go_enter Try.func7, Try.ntmps7
      go_wp2_with fail
      refine KN.out.mono ?_
      rintro e w1 ⟨rfl, t1⟩
      have H1 := Lib.hid (Turns.below (B := w.heap.size) t1 (Nat.le_refl _) (by simp))
      clear KN t1
      go_wp2_with fail
      go_ret
      exact ⟨rfl, H1.out⟩
  case pos =>
    obtain ⟨h8a, h8b⟩ := h8
    have h8I : (nl : Int) ≤ 8 := by omega
    have h8J : (bs.length : Int) ≤ 200 := by omega
    go_enter Try.func7, Try.ntmps7
    go_wp2_with fail
    refine KN.out.mono ?_
    rintro e w1 ⟨rfl, t1⟩
    have H1 := Lib.hid (Turns.below (B := w.heap.size) t1 (Nat.le_refl _) (by simp))
    clear KN t1
    go_wp2_with fail
    refine (New_at (w0 := w) (w := w1) 20 (by omega) (by omega) H1.out).mono ?_
    rintro e w2 ⟨B, g, rfl, a2, b2⟩
    have OP := Lib.hid (Open_img a2 rfl (img_fresh 20 (by omega)))
    clear a2 b2
    go_wp2_with fail
    refine OP.out.mono ?_
    rintro e w3 ⟨gl, A, n, c, rfl, hgx, a3, s3, bl3, sls3⟩
    have H3 := Lib.hid (And.intro a3 bl3)
    clear a3 s3 bl3 sls3 OP hgx
    go_wp2_with fail
    go_loopw [14] (fun i wr => CrR w B g 20 nl gl ls i wr) (fun i _ => nl - (intOf i).toNat)
    case atStart => exact ⟨0, 0, fresh 20, by omega, rfl, H3.out.1, H3.out.2, calm_fresh 20, img_fresh 20 (by omega), by omega⟩
    case round =>
      obtain ⟨k, size, st, hk1, rfl, at4, bl4, cm4, im4, hsz⟩ := hrel
      obtain ⟨Y, hY⟩ : ∃ Y, Y = wr := ⟨_, rfl⟩
      subst hY
      by_cases hka : k < nl
      · have hkI : (k : Int) < nl := by omega
        have HLn := HL.out.2.2
        obtain ⟨b5, o5, c5, n5, A5, l5, ⟨c5', hv5, _⟩, hb5, hc5, hl5, hn5, hs5⟩ := (at4.sls HL.out.1).get hka
        injection hv5 with e5 _ e6
        subst e5 e6
        have htk : ls.take (k + 1) = ls.take k ++ [l5] := by rw [List.take_add_one, hl5]; rfl
        have htl : (ls.take k).length = k := by rw [List.length_take]; omega
        have HTK := Lib.hid (And.intro htk htl)
        have hn5b : n5 ≤ 9223372036854775807 := by
          obtain ⟨_, _, _, ee, h1, h2, _⟩ := hs5
          injection ee with _ _ e3
          subst e3
          unfold maxLen at h2
          omega
        by_cases h60 : 60 < n5
        · have h60I : (60 : Int) < n5 := by omega
          have HF := Lib.hid at4.bel
          clear at4 bl4 cm4 im4 hs5 hl5 HLn htk htl
          go_wp2_with fail
          go_ret
          exact ⟨rfl, HF.out⟩
        · have h60I : (n5 : Int) ≤ 60 := by omega
          obtain rfl : l5.length = n5 := hn5
          have AP := Append_calm at4 (by simp) size (ls.take k) (by rw [htl]; exact bl4) A5 c5 l5 hs5 cm4 im4 (by omega) (by omega)
          replace AP := Lib.hid AP
          clear at4 bl4 cm4 im4 hs5 hl5 HLn htk htl
          go_wp2_with fail
          refine AP.out.mono ?_
          rintro e y6 ⟨rfl, ⟨st6, a6, k6, i6⟩, s6, bl6⟩
          rw [← HTK.out.1] at i6
          rw [HTK.out.2] at bl6
          have HF := Lib.hid (And.intro a6 (And.intro bl6 (And.intro k6 i6)))
          clear AP a6 k6 i6 s6 bl6
          go_wp2_with fail
          go_roundw
          case rel => exact ⟨k + 1, size + 8 + l5.length, st6, by omega, by go_num, HF.out.1, HF.out.2.1, HF.out.2.2.1, HF.out.2.2.2, by omega⟩
          case measure => (simp [intOf] <;> omega)
      · obtain rfl : k = nl := by omega
        have htl : ls.take k = ls := List.take_of_length_le (by have := HL.out.2.2; omega)
        rw [htl] at im4
        have ST := Lib.hid (Stop_at at4.drew (1 + (zm : Int)) (by omega))
        have H4 := Lib.hid (And.intro bl4 (And.intro cm4 im4))
        clear at4 bl4 cm4 im4 htl
        have hwz : IntKind.i64.wrap (1 + (zm : Int)) = 1 + (zm : Int) := by rw [IntKind.wrap_i64]; omega
        go_upto_region 14 with fail
        refine reg_begin (fun _ => True) (fun _ => True) 7 7 #[false, false, false, false, false, false, false] (by kernel_rfl) (by kernel_rfl) (by kernel_rfl) ?_
        refine reg_take 0 59 6 #[true, false, false, false, false, false, false] (by rfl) (v := ?_) rfl rfl (by kernel_rfl) (by kernel_rfl) (by kernel_rfl) (by kernel_rfl) (fun _ _ _ h => h) (by rfl) ?_ (Till.mk' trivial trivial) ?_
        rotate_left
        · intro W hS; go_simp; all_goals with_reducible rfl
        try simp only [List.setIfInBounds_toArray, List.set_cons_succ, List.set_cons_zero]
        refine reg_take 1 60 5 #[true, true, false, false, false, false, false] (by rfl) (v := ?_) rfl rfl (by kernel_rfl) (by kernel_rfl) (by kernel_rfl) (by kernel_rfl) (fun _ _ _ h => h) (by rfl) ?_ (Till.mk' trivial trivial) ?_
        rotate_left
        · intro W hS; go_simp; all_goals with_reducible rfl
        try simp only [List.setIfInBounds_toArray, List.set_cons_succ, List.set_cons_zero]
        refine reg_take 2 61 4 #[true, true, true, false, false, false, false] (by rfl) (v := ?_) rfl rfl (by kernel_rfl) (by kernel_rfl) (by kernel_rfl) (by kernel_rfl) (fun _ _ _ h => h) (by rfl) ?_ (Till.mk' trivial trivial) ?_
        rotate_left
        · intro W hS; go_simp; all_goals with_reducible rfl
        try simp only [List.setIfInBounds_toArray, List.set_cons_succ, List.set_cons_zero]
        refine reg_take 3 62 3 #[true, true, true, true, false, false, false] (by rfl) (v := ?_) rfl rfl (by kernel_rfl) (by kernel_rfl) (by kernel_rfl) (by kernel_rfl) (fun _ _ _ h => h) (by rfl) ?_ (Till.mk' trivial trivial) ?_
        rotate_left
        · intro W hS; go_simp; all_goals with_reducible rfl
        try simp only [List.setIfInBounds_toArray, List.set_cons_succ, List.set_cons_zero]
        refine reg_one 4 2 #[true, true, true, true, true, false, false] (by kernel_rfl) rfl (by rfl) (by kernel_rfl) (fun K hK => ?_)
        go_simp
        refine (WI.out Y.drew).mono ?_
        rintro e ww ⟨rfl, rfl⟩
        refine hK _ _ (Till.mk' trivial trivial) ?_
        clear hK K
        try simp only [List.setIfInBounds_toArray, List.set_cons_succ, List.set_cons_zero]
        refine reg_take 5 64 1 #[true, true, true, true, true, true, false] (by rfl) (v := ?_) rfl rfl (by kernel_rfl) (by kernel_rfl) (by kernel_rfl) (by kernel_rfl) (fun _ _ _ h => h) (by rfl) ?_ (Till.mk' trivial trivial) ?_
        rotate_left
        · intro W hS; go_simp; all_goals with_reducible rfl
        try simp only [List.setIfInBounds_toArray, List.set_cons_succ, List.set_cons_zero]
        refine reg_one 6 0 #[true, true, true, true, true, true, true] (by kernel_rfl) rfl (by rfl) (by kernel_rfl) (fun K hK => ?_)
        go_simp
        refine ST.out.mono ?_
        rintro e y1 ⟨rfl, a7, s7⟩
        refine hK _ _ (Till.mk' trivial trivial) ?_
        clear hK K
        try simp only [List.setIfInBounds_toArray, List.set_cons_succ, List.set_cons_zero]
        refine reg_done (by kernel_rfl) ?_ _
        obtain ⟨st7, hst7⟩ : ∃ s, s = st.stop (1 + (zm : Int)) := ⟨_, rfl⟩
        rw [← hst7] at a7
        have i7 : Img st7.now 20 size ls := by rw [hst7]; exact H4.out.2.2
        have d7 : st7.dead = false := by rw [hst7]; exact H4.out.2.1.dead
        have y7 : st7.synced = st7.now := by rw [hst7]; exact H4.out.2.1.synced
        have w7 : st7.writes = [] := by rw [hst7]; exact H4.out.2.1.writes
        have bl7 := s7.blk (x := gl) (by simp) H4.out.1.drew
        have hs7 := a7.arg HL.out.2.1
        have hlk : ls.length = k := HL.out.2.2
        have AP := Append_any a7 (by simp) size k bl7 Ab cb bs hs7 d7 (by omega) (by omega) (by omega) (by rw [w7]; simp)
        have AO := append_out st7 20 size ls bs i7 y7 w7 d7 (by omega) (by omega) (by omega)
        rw [hlk] at AO
        replace AP := Lib.hid AP
        replace AO := Lib.hid AO
        clear i7 y7 w7 bl7 hs7 a7 s7 hst7 ST H4
        go_wp2_with fail
        refine AP.out.mono ?_
        rintro e y8 ho
        obtain ⟨⟨s8, c8⟩, hr8⟩ : ∃ r, r = st7.append size k bs := ⟨_, rfl⟩
        have AO8 := AO.out.ex
        have h8c := ho.code
        have h8a := ho.at_
        have h8l := ho.log
        rw [← hr8] at AO8 h8c h8a h8l
        simp only at AO8 h8c h8a h8l
        subst h8c
        obtain ⟨nn, hn8, BK⟩ : ∃ nn : Int, (if c8 = 0 then LG g ((size + 8 + bs.length : Nat) : Int) ((k + 1 : Nat) : Int) else LG g size k) = LG g (if c8 = 0 then ((size + 8 + bs.length : Nat) : Int) else size) nn ∧ (s8.fine 20 ∧ s8.writes.length ≤ 1000000 ∧ (0 ≤ nn ∧ nn ≤ 100) ∧ ∀ l, ∃ recs size', Img (s8.crash l).now 20 size' recs ∧ Back ls bs c8 nn recs) := by
          rcases AO8 with ⟨rfl, _, q2, q3, q4, _⟩ | ⟨rfl, _, q1, q2, q3⟩
          · refine ⟨((k + 1 : Nat) : Int), by rw [if_pos rfl, if_pos rfl], fun x hx => (by rw [q2] at hx; simp at hx), by rw [q2]; simp, by omega, fun l => ⟨ls ++ [bs], size + 8 + bs.length, ?_, .inr ⟨rfl, .inr ⟨rfl, by rw [hlk]; omega⟩⟩⟩⟩
            show Img (crashS l 0 s8.writes s8.synced) 20 (size + 8 + bs.length) (ls ++ [bs])
            rw [q2, q3]
            exact q4
          · refine ⟨k, by rw [if_neg (by decide), if_neg (by decide)], q1, by omega, by omega, fun l => ?_⟩
            rcases q3 l with q | q
            · exact ⟨ls, size, q, .inl ⟨rfl, rfl, by rw [hlk]⟩⟩
            · exact ⟨ls ++ [bs], size + 8 + bs.length, q, .inr ⟨rfl, .inl ⟨rfl, by rw [hlk]⟩⟩⟩
        rw [hn8] at h8l
        have CO := Lib.hid (Count_any y8 gl g _ _ h8l)
        have ST := Lib.hid (Stop_at h8a 0 (by omega))
        have HBK := Lib.hid BK
        have hnn := BK.2.2.1
        clear AO8 h8a h8l hr8 ho hn8 BK AP AO
        go_wp2_with fail
        refine CO.out.mono ?_
        rintro e ww ⟨rfl, rfl⟩
        go_wp2_with fail
        refine ST.out.mono ?_
        rintro e y9 ⟨rfl, a9, s9⟩
        have CR := Lib.hid (Crash_at a9 Ap cp ps HBK.out.1 HBK.out.2.1 (a9.arg HP.out.1) HP.out.2 (fun hne a ha => by
          right
          obtain ⟨_, A', c', he, _, _, _, hrd⟩ := HP.out.1
          injection he with e1 _ _
          obtain ⟨b, off, e2, hb, _⟩ := hrd (by simpa using hne)
          rw [← e1, ha] at e2
          injection e2 with e2
          rw [e2]; exact hb))
        clear a9 s9 CO ST
        go_wp2_with fail
        refine CR.out.mono ?_
        rintro e z1 ⟨rfl, a10, s10⟩
        obtain ⟨recs, size', im10, bk⟩ := HBK.out.2.2.2 ps
        have OP := Open_img (recs := recs) (size := size') a10 rfl im10
        replace OP := Lib.hid OP
        have HB := Lib.hid bk
        clear a10 s10 im10 bk CR
        go_wp2_with fail
        refine OP.out.mono ?_
        rintro e z2 ⟨gl2, A2, n2, c2, rfl, hg2, a11, s11, bl11, sls11⟩
        obtain rfl : recs.length = n2 := by obtain ⟨_, h, _⟩ := sls11; exact h
        have hc2 : recs.length ≤ c2 ∧ c2 ≤ 9223372036854775807 := by
          obtain ⟨A, c, e, h1, h2⟩ := sls11.sls.form
          injection e with _ _ e3
          subst e3
          unfold maxLen at h2
          omega
        have hk2 : k ≤ recs.length ∧ recs.length ≤ k + 1 := by
          rcases HB.out with ⟨h, _⟩ | ⟨h, _⟩
          · rw [h]; omega
          · rw [h, List.length_append, List.length_singleton]; omega
        have hpre : recs.take k = ls := by
          rcases HB.out with ⟨h, _⟩ | ⟨h, _⟩
          · rw [h, List.take_of_length_le (by omega)]
          · rw [h, ← hlk, List.take_left]
        have RW := rows_any z2 _ _ _ _ _ _ (sls11.sls.to hk2.1) (a11.sls HL.out.1)
        rw [decide_eq_true hpre] at RW
        have rt := fun w => run_to2 A2 recs.length c2 k hk2.1 hc2.1 w
        have r1 : (k : Int) ≤ recs.length := by omega
        have r2 : (recs.length : Int) ≤ k + 1 := by omega
        replace RW := Lib.hid RW
        have H11 := Lib.hid (And.intro a11 sls11)
        clear a11 s11 bl11 sls11 hg2 OP hpre
        go_wp2_with fail
        refine RW.out.mono ?_
        rintro e z3 ⟨rfl, t3⟩
        have S00 : Turns [] z3 z3.drew := (Turns.refl _ _).drew
        have HF := Lib.hid (And.intro (H11.out.1.turn t3 (by simp)).bel t3)
        clear t3 RW rt
        go_wp2_with fail
        rcases HB.out with ⟨hrs, hc8, hnn8⟩ | ⟨hrs, hcn⟩
        · have hgt : ¬ (k : Int) < recs.length := by rw [hrs, hlk]; omega
          rw [hlk] at hnn8
          clear hrs hlk
          subst hc8 hnn8
          refine reg_begin (fun W => Turns [] z3 W) (fun _ => True) 16 16 #[false, false, false, false, false, false, false, false, false, false, false, false, false, false, false, false] (by kernel_rfl) (by kernel_rfl) (by kernel_rfl) ?_
          refine reg_take 0 110 15 #[true, false, false, false, false, false, false, false, false, false, false, false, false, false, false, false] (by rfl) (v := ?_) rfl rfl (by kernel_rfl) (by kernel_rfl) (by kernel_rfl) (by kernel_rfl) (fun _ _ _ h => h) (by rfl) ?_ (Till.mk' S00 trivial) ?_
          rotate_left
          · intro W hS; go_simp; all_goals with_reducible rfl
          try simp only [List.setIfInBounds_toArray, List.set_cons_succ, List.set_cons_zero]
          refine reg_take 1 111 14 #[true, true, false, false, false, false, false, false, false, false, false, false, false, false, false, false] (by rfl) (v := ?_) rfl rfl (by kernel_rfl) (by kernel_rfl) (by kernel_rfl) (by kernel_rfl) (fun _ _ _ h => h) (by rfl) ?_ (Till.mk' S00 trivial) ?_
          rotate_left
          · intro W hS; go_simp; all_goals with_reducible rfl
          try simp only [List.setIfInBounds_toArray, List.set_cons_succ, List.set_cons_zero]
          refine reg_take 2 112 13 #[true, true, true, false, false, false, false, false, false, false, false, false, false, false, false, false] (by rfl) (v := ?_) rfl rfl (by kernel_rfl) (by kernel_rfl) (by kernel_rfl) (by kernel_rfl) (fun _ _ _ h => h) (by rfl) ?_ (Till.mk' S00 trivial) ?_
          rotate_left
          · intro W hS; go_simp; all_goals with_reducible rfl
          try simp only [List.setIfInBounds_toArray, List.set_cons_succ, List.set_cons_zero]
          refine reg_take 3 113 12 #[true, true, true, true, false, false, false, false, false, false, false, false, false, false, false, false] (by rfl) (v := ?_) rfl rfl (by kernel_rfl) (by kernel_rfl) (by kernel_rfl) (by kernel_rfl) (fun _ _ _ h => h) (by rfl) ?_ (Till.mk' S00 trivial) ?_
          rotate_left
          · intro W hS; go_simp; all_goals with_reducible rfl
          try simp only [List.setIfInBounds_toArray, List.set_cons_succ, List.set_cons_zero]
          refine reg_take 4 114 11 #[true, true, true, true, true, false, false, false, false, false, false, false, false, false, false, false] (by rfl) (v := ?_) rfl rfl (by kernel_rfl) (by kernel_rfl) (by kernel_rfl) (by kernel_rfl) (fun _ _ _ h => h) (by rfl) ?_ (Till.mk' S00 trivial) ?_
          rotate_left
          · intro W hS; go_simp; all_goals with_reducible rfl
          try simp only [List.setIfInBounds_toArray, List.set_cons_succ, List.set_cons_zero]
          refine reg_take 5 115 10 #[true, true, true, true, true, true, false, false, false, false, false, false, false, false, false, false] (by rfl) (v := ?_) rfl rfl (by kernel_rfl) (by kernel_rfl) (by kernel_rfl) (by kernel_rfl) (fun _ _ _ h => h) (by rfl) ?_ (Till.mk' S00 trivial) ?_
          rotate_left
          · intro W hS; go_simp; all_goals with_reducible rfl
          try simp only [List.setIfInBounds_toArray, List.set_cons_succ, List.set_cons_zero]
          refine reg_skip 6 116 9 #[true, true, true, true, true, true, true, false, false, false, false, false, false, false, false, false] (by rfl) rfl rfl (by kernel_rfl) (by kernel_rfl) (by kernel_rfl) (by kernel_rfl) (fun _ _ _ h => h) (by rfl) (Till.mk' S00 trivial) ?_
          try simp only [List.setIfInBounds_toArray, List.set_cons_succ, List.set_cons_zero]
          refine reg_skip 7 117 8 #[true, true, true, true, true, true, true, true, false, false, false, false, false, false, false, false] (by rfl) rfl rfl (by kernel_rfl) (by kernel_rfl) (by kernel_rfl) (by kernel_rfl) (fun _ _ _ h => h) (by rfl) (Till.mk' S00 trivial) ?_
          try simp only [List.setIfInBounds_toArray, List.set_cons_succ, List.set_cons_zero]
          refine reg_skip 8 118 7 #[true, true, true, true, true, true, true, true, true, false, false, false, false, false, false, false] (by rfl) rfl rfl (by kernel_rfl) (by kernel_rfl) (by kernel_rfl) (by kernel_rfl) (fun _ _ _ h => h) (by rfl) (Till.mk' S00 trivial) ?_
          try simp only [List.setIfInBounds_toArray, List.set_cons_succ, List.set_cons_zero]
          refine reg_skip 9 119 6 #[true, true, true, true, true, true, true, true, true, true, false, false, false, false, false, false] (by rfl) rfl rfl (by kernel_rfl) (by kernel_rfl) (by kernel_rfl) (by kernel_rfl) (fun _ _ _ h => h) (by rfl) (Till.mk' S00 trivial) ?_
          try simp only [List.setIfInBounds_toArray, List.set_cons_succ, List.set_cons_zero]
          refine reg_skip 10 120 5 #[true, true, true, true, true, true, true, true, true, true, true, false, false, false, false, false] (by rfl) rfl rfl (by kernel_rfl) (by kernel_rfl) (by kernel_rfl) (by kernel_rfl) (fun _ _ _ h => h) (by rfl) (Till.mk' S00 trivial) ?_
          try simp only [List.setIfInBounds_toArray, List.set_cons_succ, List.set_cons_zero]
          refine reg_skip 11 121 4 #[true, true, true, true, true, true, true, true, true, true, true, true, false, false, false, false] (by rfl) rfl rfl (by kernel_rfl) (by kernel_rfl) (by kernel_rfl) (by kernel_rfl) (fun _ _ _ h => h) (by rfl) (Till.mk' S00 trivial) ?_
          try simp only [List.setIfInBounds_toArray, List.set_cons_succ, List.set_cons_zero]
          refine reg_skip 12 122 3 #[true, true, true, true, true, true, true, true, true, true, true, true, true, false, false, false] (by rfl) rfl rfl (by kernel_rfl) (by kernel_rfl) (by kernel_rfl) (by kernel_rfl) (fun _ _ _ h => h) (by rfl) (Till.mk' S00 trivial) ?_
          try simp only [List.setIfInBounds_toArray, List.set_cons_succ, List.set_cons_zero]
          refine reg_skip 13 123 2 #[true, true, true, true, true, true, true, true, true, true, true, true, true, true, false, false] (by rfl) rfl rfl (by kernel_rfl) (by kernel_rfl) (by kernel_rfl) (by kernel_rfl) (fun _ _ _ h => h) (by rfl) (Till.mk' S00 trivial) ?_
          try simp only [List.setIfInBounds_toArray, List.set_cons_succ, List.set_cons_zero]
          refine reg_skip 14 124 1 #[true, true, true, true, true, true, true, true, true, true, true, true, true, true, true, false] (by rfl) rfl rfl (by kernel_rfl) (by kernel_rfl) (by kernel_rfl) (by kernel_rfl) (fun _ _ _ h => h) (by rfl) (Till.mk' S00 trivial) ?_
          try simp only [List.setIfInBounds_toArray, List.set_cons_succ, List.set_cons_zero]
          refine reg_take 15 125 0 #[true, true, true, true, true, true, true, true, true, true, true, true, true, true, true, true] (by rfl) (v := ?_) rfl rfl (by kernel_rfl) (by kernel_rfl) (by kernel_rfl) (by kernel_rfl) (fun _ _ _ h => h) (by rfl) ?_ (Till.mk' S00 trivial) ?_
          rotate_left
          · intro W hS; go_simp; all_goals with_reducible rfl
          try simp only [List.setIfInBounds_toArray, List.set_cons_succ, List.set_cons_zero]
          refine reg_done (by kernel_rfl) ?_ _
          go_wp2_with fail
          go_ret
          exact ⟨rfl, (HF.out.1.trans (Below.drewN (Below.refl _ _) 1))⟩
        · have hrl : recs.length = k + 1 := by rw [hrs, List.length_append, List.length_singleton, hlk]
          have hgt : (k : Int) < recs.length := by omega
          obtain ⟨b5, o5, c5, n5, A5, l5, ⟨c5', hv5, _⟩, hb5, hc5, hl5, hn5, hs5⟩ := H11.out.2.get (show k < recs.length by omega)
          injection hv5 with e5 _ e6
          subst e5 e6
          obtain rfl : l5 = bs := by
            rw [hrs, List.getElem?_append_right (by omega), hlk, Nat.sub_self] at hl5
            simpa using hl5.symm
          obtain ⟨T, hT⟩ : ∃ T, T = strOf l5 := ⟨_, rfl⟩
          have cv1 := Lib.hid fun (W : World) (hS : Turns [] z2 W) => (hT ▸ conv_str (P := Try.prog) (src := 34) (dst := 9) (e := 5) (Turns.slice hS hs5 (Nat.le_refl _) (by simp)) Try.underlying34 Try.underlying5 Try.underlying9 : (convert 34 9 (.slice A5 n5 c5)).run Try.prog W = .ok (.string T) W)
          have cv2 := Lib.hid fun (W : World) (hS : Turns [] z2 W) => (hT ▸ conv_str (P := Try.prog) (src := 34) (dst := 9) (e := 5) (Turns.slice hS (H11.out.1.arg HL.out.2.1) (Nat.le_refl _) (by simp)) Try.underlying34 Try.underlying5 Try.underlying9 : (convert 34 9 (.slice Ab l5.length cb)).run Try.prog W = .ok (.string T) W)
          have HC := Lib.hid hc5
          have S0 : Turns [] z2 z3.drew := HF.out.2.drew
          have hrI : (recs.length : Int) = (k : Int) + 1 := by omega
          have HRI := Lib.hid hrI
          rw [hlk] at hcn
          clear hT hl5 hs5 hc5 hrs hlk hn5 hrl hrI hb5
          refine reg_begin (fun W => Turns [] z2 W) (fun _ => True) 16 16 #[false, false, false, false, false, false, false, false, false, false, false, false, false, false, false, false] (by kernel_rfl) (by kernel_rfl) (by kernel_rfl) ?_
          refine reg_take 0 110 15 #[true, false, false, false, false, false, false, false, false, false, false, false, false, false, false, false] (by rfl) (v := ?_) rfl rfl (by kernel_rfl) (by kernel_rfl) (by kernel_rfl) (by kernel_rfl) (fun _ _ _ h => h) (by rfl) ?_ (Till.mk' S0 trivial) ?_
          rotate_left
          · intro W hS; go_simp; all_goals with_reducible rfl
          try simp only [List.setIfInBounds_toArray, List.set_cons_succ, List.set_cons_zero]
          refine reg_take 1 111 14 #[true, true, false, false, false, false, false, false, false, false, false, false, false, false, false, false] (by rfl) (v := ?_) rfl rfl (by kernel_rfl) (by kernel_rfl) (by kernel_rfl) (by kernel_rfl) (fun _ _ _ h => h) (by rfl) ?_ (Till.mk' S0 trivial) ?_
          rotate_left
          · intro W hS; go_simp; all_goals with_reducible rfl
          try simp only [List.setIfInBounds_toArray, List.set_cons_succ, List.set_cons_zero]
          refine reg_take 2 112 13 #[true, true, true, false, false, false, false, false, false, false, false, false, false, false, false, false] (by rfl) (v := ?_) rfl rfl (by kernel_rfl) (by kernel_rfl) (by kernel_rfl) (by kernel_rfl) (fun _ _ _ h => h) (by rfl) ?_ (Till.mk' S0 trivial) ?_
          rotate_left
          · intro W hS; go_simp; all_goals with_reducible rfl
          try simp only [List.setIfInBounds_toArray, List.set_cons_succ, List.set_cons_zero]
          refine reg_take 3 113 12 #[true, true, true, true, false, false, false, false, false, false, false, false, false, false, false, false] (by rfl) (v := ?_) rfl rfl (by kernel_rfl) (by kernel_rfl) (by kernel_rfl) (by kernel_rfl) (fun _ _ _ h => h) (by rfl) ?_ (Till.mk' S0 trivial) ?_
          rotate_left
          · intro W hS; go_simp; all_goals with_reducible rfl
          try simp only [List.setIfInBounds_toArray, List.set_cons_succ, List.set_cons_zero]
          refine reg_take 4 114 11 #[true, true, true, true, true, false, false, false, false, false, false, false, false, false, false, false] (by rfl) (v := ?_) rfl rfl (by kernel_rfl) (by kernel_rfl) (by kernel_rfl) (by kernel_rfl) (fun _ _ _ h => h) (by rfl) ?_ (Till.mk' S0 trivial) ?_
          rotate_left
          · intro W hS; go_simp; all_goals with_reducible rfl
          try simp only [List.setIfInBounds_toArray, List.set_cons_succ, List.set_cons_zero]
          refine reg_take 5 115 10 #[true, true, true, true, true, true, false, false, false, false, false, false, false, false, false, false] (by rfl) (v := ?_) rfl rfl (by kernel_rfl) (by kernel_rfl) (by kernel_rfl) (by kernel_rfl) (fun _ _ _ h => h) (by rfl) ?_ (Till.mk' S0 trivial) ?_
          rotate_left
          · intro W hS; go_simp; all_goals with_reducible rfl
          try simp only [List.setIfInBounds_toArray, List.set_cons_succ, List.set_cons_zero]
          refine reg_take 6 116 9 #[true, true, true, true, true, true, true, false, false, false, false, false, false, false, false, false] (by rfl) (v := ?_) rfl rfl (by kernel_rfl) (by kernel_rfl) (by kernel_rfl) (by kernel_rfl) (fun _ _ _ h => h) (by rfl) ?_ (Till.mk' S0 trivial) ?_
          rotate_left
          · intro W hS; go_simp; all_goals with_reducible rfl
          try simp only [List.setIfInBounds_toArray, List.set_cons_succ, List.set_cons_zero]
          refine reg_take 7 117 8 #[true, true, true, true, true, true, true, true, false, false, false, false, false, false, false, false] (by rfl) (v := ?_) rfl rfl (by kernel_rfl) (by kernel_rfl) (by kernel_rfl) (by kernel_rfl) (fun _ _ _ h => h) (by rfl) ?_ (Till.mk' S0 trivial) ?_
          rotate_left
          · intro W hS; go_simp; all_goals with_reducible rfl
          try simp only [List.setIfInBounds_toArray, List.set_cons_succ, List.set_cons_zero]
          refine reg_take 8 118 7 #[true, true, true, true, true, true, true, true, true, false, false, false, false, false, false, false] (by rfl) (v := ?_) rfl rfl (by kernel_rfl) (by kernel_rfl) (by kernel_rfl) (by kernel_rfl) (fun _ _ _ h => h) (by rfl) ?_ (Till.mk' S0 trivial) ?_
          rotate_left
          · intro W hS; go_simp; all_goals with_reducible rfl
          try simp only [List.setIfInBounds_toArray, List.set_cons_succ, List.set_cons_zero]
          refine reg_take 9 119 6 #[true, true, true, true, true, true, true, true, true, true, false, false, false, false, false, false] (by rfl) (v := ?_) rfl rfl (by kernel_rfl) (by kernel_rfl) (by kernel_rfl) (by kernel_rfl) (fun _ _ _ h => h) (by rfl) ?_ (Till.mk' S0 trivial) ?_
          rotate_left
          · intro W hS; go_simp; all_goals with_reducible rfl
          try simp only [List.setIfInBounds_toArray, List.set_cons_succ, List.set_cons_zero]
          refine reg_take 10 120 5 #[true, true, true, true, true, true, true, true, true, true, true, false, false, false, false, false] (by rfl) (v := ?_) rfl rfl (by kernel_rfl) (by kernel_rfl) (by kernel_rfl) (by kernel_rfl) (fun _ _ _ h => h) (by rfl) ?_ (Till.mk' S0 trivial) ?_
          rotate_left
          · intro W hS; have c9 := cellW hS HC.out; go_simp; all_goals with_reducible rfl
          try simp only [List.setIfInBounds_toArray, List.set_cons_succ, List.set_cons_zero]
          refine reg_take 11 121 4 #[true, true, true, true, true, true, true, true, true, true, true, true, false, false, false, false] (by rfl) (v := ?_) rfl rfl (by kernel_rfl) (by kernel_rfl) (by kernel_rfl) (by kernel_rfl) (fun _ _ _ h => h) (by rfl) ?_ (Till.mk' S0 trivial) ?_
          rotate_left
          · intro W hS; have hcv := cv1.out W hS; go_simp; all_goals with_reducible rfl
          try simp only [List.setIfInBounds_toArray, List.set_cons_succ, List.set_cons_zero]
          refine reg_take 12 122 3 #[true, true, true, true, true, true, true, true, true, true, true, true, true, false, false, false] (by rfl) (v := ?_) rfl rfl (by kernel_rfl) (by kernel_rfl) (by kernel_rfl) (by kernel_rfl) (fun _ _ _ h => h) (by rfl) ?_ (Till.mk' S0 trivial) ?_
          rotate_left
          · intro W hS; go_simp; all_goals with_reducible rfl
          try simp only [List.setIfInBounds_toArray, List.set_cons_succ, List.set_cons_zero]
          refine reg_take 13 123 2 #[true, true, true, true, true, true, true, true, true, true, true, true, true, true, false, false] (by rfl) (v := ?_) rfl rfl (by kernel_rfl) (by kernel_rfl) (by kernel_rfl) (by kernel_rfl) (fun _ _ _ h => h) (by rfl) ?_ (Till.mk' S0 trivial) ?_
          rotate_left
          · intro W hS; have hcv := cv2.out W hS; go_simp; all_goals with_reducible rfl
          try simp only [List.setIfInBounds_toArray, List.set_cons_succ, List.set_cons_zero]
          refine reg_take 14 124 1 #[true, true, true, true, true, true, true, true, true, true, true, true, true, true, true, false] (by rfl) (v := ?_) rfl rfl (by kernel_rfl) (by kernel_rfl) (by kernel_rfl) (by kernel_rfl) (fun _ _ _ h => h) (by rfl) ?_ (Till.mk' S0 trivial) ?_
          rotate_left
          · intro W hS; go_simp; all_goals with_reducible rfl
          try simp only [List.setIfInBounds_toArray, List.set_cons_succ, List.set_cons_zero]
          refine reg_take 15 125 0 #[true, true, true, true, true, true, true, true, true, true, true, true, true, true, true, true] (by rfl) (v := ?_) rfl rfl (by kernel_rfl) (by kernel_rfl) (by kernel_rfl) (by kernel_rfl) (fun _ _ _ h => h) (by rfl) ?_ (Till.mk' S0 trivial) ?_
          rotate_left
          · intro W hS; go_simp; all_goals with_reducible rfl
          try simp only [List.setIfInBounds_toArray, List.set_cons_succ, List.set_cons_zero]
          refine reg_done (by kernel_rfl) ?_ _
          rw [HRI.out]
          rcases hcn with ⟨hc8, hnn8⟩ | ⟨hc8, hnn8⟩
          all_goals
            subst hc8 hnn8
            go_wp2_with fail
            go_ret
            exact ⟨rfl, (HF.out.1.trans (Below.drewN (Below.refl _ _) 1))⟩
end Go.Proofs.Ytdhbaepmbgoobaa
