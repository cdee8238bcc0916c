/- What was appended is told, in order: WalBack. -/
import Derived.Test.YtdhbaepmbgoobaaWScan
import Derived.Test.YtdhbaepmbgoobaaWKn
import Derived.Test.YtdhbaepmbgoobaaWRws
import Derived.Test.YtdhbaepmbgoobaaOpn
import Derived.WideShapes
namespace Go.Proofs.Ytdhbaepmbgoobaa
open Go.RowKit Go.WideShapes
set_option linter.unusedVariables false
set_option maxRecDepth 10000
set_option linter.unusedSimpArgs false
set_option linter.unnecessarySimpa false

theorem bools_of_trod {H : Type} {enc : TypeId × Value → H} {w : World} {base : Nat} {v : Value} {d : DataW H} {p : List MemPlace} (hval : Value.okWide Try.prog w .any base 47 v) (h : DataW.Trod enc Try.prog w 0 (fun _ => true) true 47 v d p) :
    ∃ bl : List Bool, ∃ A c, v = .slice A bl.length c ∧ Sl w w.heap.size 1 v bl.length (bl.map Value.bool) := by
  obtain ⟨A, len, cap, rfl⟩ := okWide_slice Try.underlying47 hval
  obtain ⟨fuel, hf⟩ := h
  obtain ⟨A', n, c, css, e1, hcl, hel, hsl⟩ := slice_of_trod Try.underlying47 (show Try.prog.cellsOf 4 = 1 by kernel_rfl) (by omega) hf
  simp [Value.cells] at e1
  obtain ⟨rfl, rfl, rfl⟩ := e1
  obtain ⟨bl, hn, hcs, _⟩ := choose_all (fun b => [Value.bool b]) (fun _ => True) hcl (fun j hj => by
    obtain ⟨fu, y, _, hy⟩ := hel j hj
    obtain ⟨b, hb, _⟩ := DataW.trod_bool Try.underlying4 hy
    exact ⟨b, hb, trivial⟩)
  rw [hcs] at hsl
  refine ⟨bl, A, cap, by rw [hn], ?_⟩
  rw [hn]
  have e : (bl.map fun b => [Value.bool b]).flatten = bl.map Value.bool := by
    clear hsl hn hcs hcl hel
    induction bl with
    | nil => rfl
    | cons b bl ih => rw [List.map_cons, List.flatten_cons, ih (fun _ _ => trivial)]; rfl
  rw [e] at hsl
  exact hsl
theorem Sls.to {w : World} {B n c k : Nat} {A : Option Addr} {ls : List (List UInt8)} (h : Sls w B (.slice A n c) n ls) (hk : k ≤ n) : Sls w B (.slice A k c) k (ls.take k) := by
  obtain ⟨vs, h1, h2, h3⟩ := h
  refine ⟨vs.take k, by rw [List.length_take]; omega, h2.to hk, fun j u hu => ?_⟩
  rw [List.getElem?_take] at hu
  split at hu
  · rename_i hj
    obtain ⟨l, hl, hs⟩ := h3 j u hu
    exact ⟨l, by rw [List.getElem?_take, if_pos hj]; exact hl, hs⟩
  · cases hu
theorem At.sls {w0 w : World} {B g p n : Nat} {st : DS} {X : List Nat} {v : Value} {ls : List (List UInt8)} (h : At w0 w B g p st X) (hs : Sls w0 w0.heap.size v n ls) : Sls w w.heap.size v n ls := (hs.below h.bel).more h.bel.size
theorem run_to2 (A : Option Addr) (n c k : Nat) (hk : k ≤ n) (hc : n ≤ c) (w : World) : (Instr.sliceAt 30 (.slice A n c) none (some (.int .i64 (k : Int))) none).run Try.prog w = .ok (.slice A k c) w := by
  have z1 : (k : Int) ≤ (c : Int) := by omega
  have z2 : k ≤ c := by omega
  go_simp
/-- The loop: the disk holds a log of the first of them. -/
def BkR (w0 : World) (B g p nl : Nat) (ls : List (List UInt8)) (a n i : Value) (wr : World) : Prop :=
  ∃ (k gl size : Nat) (st : DS), k ≤ nl ∧ k ≤ 20 ∧ i = .int .i64 k ∧ n = .int .i64 k ∧ a = .pointer (some ⟨gl, 0, none⟩) ∧ At w0 wr B g p st [gl] ∧ Blk wr gl (LG g size k) 86 ∧ Calm st ∧ Img st.now p size (ls.take k) ∧ size ≤ 158 * k

set_option maxRecDepth 100000 in
set_option maxHeartbeats 8000000 in
theorem WalBack_walk (Al Ab : Option Addr) (nl cl cb : Nat) (ls : List (List UInt8)) (bl : List Bool) (w : World)
    (hl : Sls w w.heap.size (.slice Al nl cl) nl ls) (hb : Sl w w.heap.size 1 (.slice Ab bl.length cb) bl.length (bl.map Value.bool)) :
    Calls Try.prog 6 #[.slice Al nl cl, .slice Ab bl.length cb] w fun e w' => e = .returned (.bool true) ∧ Below w.heap.size w w' := by
  have KN := Lib.hid (known_any w)
  have hlen : ls.length = nl := by obtain ⟨_, h, _⟩ := hl; exact h
  have hcl : nl ≤ cl ∧ cl ≤ 9223372036854775807 := by
    obtain ⟨A, c, e, h1, h2⟩ := hl.form
    injection e with _ _ e3
    subst e3
    unfold maxLen at h2
    omega
  have hcb : bl.length ≤ 9223372036854775807 := by
    obtain ⟨_, _, _, ee, h1, h2, _⟩ := hb
    injection ee with _ _ e3
    subst e3
    unfold maxLen at h2
    omega
  have HL := Lib.hid (And.intro hl (And.intro hb hlen))
  clear hl hb hlen
  go_enter Try.func6, Try.ntmps6
  go_wp2_with fail
  refine KN.out.mono ?_
  rintro e w1 ⟨rfl, t1⟩
  have H1 := Lib.hid (Turns.below (B := w.heap.size) t1 (Nat.le_refl _) (by simp))
  clear KN t1
  go_wp2_with fail
  refine (New_at (w0 := w) (w := w1) 60 (by omega) (by omega) H1.out).mono ?_
  rintro e w2 ⟨B, g, rfl, a2, b2⟩
  have OP := Lib.hid (Open_img a2 rfl (img_fresh 60 (by omega)))
  clear a2 b2
  go_wp2_with fail
  refine OP.out.mono ?_
  rintro e w3 ⟨gl, A, n, c, rfl, hgx, a3, s3, bl3, sls3⟩
  have H3 := Lib.hid (And.intro a3 bl3)
  clear a3 s3 bl3 sls3 OP hgx
  go_wp2_with fail
  go_loopw [7, 10, 11] (fun a n i wr => BkR w B g 60 nl ls a n i wr) (fun _ _ i _ => 20 - (intOf i).toNat)
  case atStart => exact ⟨0, gl, 0, fresh 60, by omega, by omega, rfl, rfl, rfl, H3.out.1, H3.out.2, calm_fresh 60, img_fresh 60 (by omega), by omega⟩
  case round =>
    obtain ⟨k, gk, size, st, hk1, hk2, rfl, rfl, rfl, at4, bl4, cm4, im4, hsz⟩ := hrel
    obtain ⟨Y, hY⟩ : ∃ Y, Y = wr := ⟨_, rfl⟩
    subst hY
    by_cases hk : k < nl ∧ k < 20
    · obtain ⟨hka, hkb⟩ := hk
      have hkI : (k : Int) < nl := by omega
      have hkJ : (k : Int) < 20 := by omega
      have HLn := HL.out.2.2
      obtain ⟨b5, o5, c5, n5, A5, l5, ⟨c5', hv5, _⟩, hb5, hc5, hl5, hn5, hs5⟩ := (at4.sls HL.out.1).get hka
      injection hv5 with e5 _ e6
      subst e5 e6
      have htk : ls.take (k + 1) = ls.take k ++ [l5] := by rw [List.take_add_one, hl5]; rfl
      have htl : (ls.take k).length = k := by rw [List.length_take]; omega
      have HTK := Lib.hid (And.intro htk htl)
      have hn5b : n5 ≤ 9223372036854775807 := by
        obtain ⟨_, _, _, ee, h1, h2, _⟩ := hs5
        injection ee with _ _ e3
        subst e3
        unfold maxLen at h2
        omega
      by_cases h150 : 150 < n5
      · have h150I : (150 : Int) < n5 := by omega
        have HF := Lib.hid at4.bel
        clear at4 bl4 cm4 im4 hs5 hl5 HLn htk htl
        go_wp2_with fail
        go_ret
        exact ⟨rfl, HF.out⟩
      · have h150I : (n5 : Int) ≤ 150 := by omega
        obtain rfl : l5.length = n5 := hn5
        have AP := Append_calm at4 (by simp) size (ls.take k) (by rw [htl]; exact bl4) A5 c5 l5 hs5 cm4 im4 (by omega) (by omega)
        replace AP := Lib.hid AP
        clear at4 bl4 cm4 im4 hs5 hl5 HLn htk htl
        go_wp2_with fail
        refine AP.out.mono ?_
        rintro e y6 ⟨rfl, ⟨st6, a6, k6, i6⟩, s6, bl6⟩
        rw [← HTK.out.1] at i6
        rw [HTK.out.2] at bl6
        have HF := Lib.hid (And.intro a6 (And.intro bl6 (And.intro k6 i6)))
        clear AP a6 k6 i6 s6 bl6
        by_cases hag : k < bl.length
        · have hagI : (k : Int) < bl.length := by omega
          have hsb := HF.out.1.arg HL.out.2.1
          obtain ⟨_, _, _, ee, h1, _, _, hrd⟩ := hsb
          injection ee with e1 _ e3
          subst e1 e3
          obtain ⟨b7, o7, e7, hb7, hc7⟩ := hrd.at_ (k := k) (by simpa using hag)
          subst e7
          rw [List.getElem_map] at hc7
          obtain ⟨bk, hbk⟩ : ∃ b, b = bl[k] := ⟨_, rfl⟩
          rw [← hbk] at hc7
          clear hrd hbk h1
          cases bk
          · go_wp2_with fail
            go_roundw
            case rel => exact ⟨k + 1, gk, size + 8 + l5.length, st6, by omega, by omega, by go_num, by go_num, rfl, HF.out.1, HF.out.2.1, HF.out.2.2.1, HF.out.2.2.2, by omega⟩
            case measure => (simp [intOf] <;> omega)
          · have OP := Lib.hid (Open_img HF.out.1 HF.out.2.2.1.dead HF.out.2.2.2)
            go_wp2_with fail
            refine OP.out.mono ?_
            rintro e y8 ⟨gl8, A8, n8, c8, rfl, hgx8, a8, s8, bl8, sls8⟩
            have RW := rows_any y8 _ _ _ _ _ _ sls8.sls ((a8.sls HL.out.1).to (show k + 1 ≤ nl by omega))
            rw [decide_eq_true rfl] at RW
            have hkk : ((k : Int) + 1) = ((k + 1 : Nat) : Int) := by omega
            have rt := fun w => run_to2 (some ⟨b5, o5, none⟩) nl cl (k + 1) (by omega) hcl.1 w
            rw [← hkk] at rt
            have HF8 := Lib.hid (And.intro a8 bl8)
            have HTL := Lib.hid (show (ls.take (k + 1)).length = k + 1 by rw [List.length_take]; have := HL.out.2.2; omega)
            replace RW := Lib.hid RW
            clear a8 s8 bl8 sls8 OP hgx8 hkk
            go_wp2_with fail
            refine RW.out.mono ?_
            rintro e y9 ⟨rfl, t9⟩
            have a9 := HF8.out.1.turn t9 (by simp)
            have bl9 := HF8.out.2.turns t9 (by simp)
            rw [HTL.out] at bl9
            have HF9 := Lib.hid (And.intro (a9.sub (Y := [gl8]) (by simp)) bl9)
            clear a9 bl9 t9 RW rt
            go_wp2_with fail
            go_roundw
            case rel => exact ⟨k + 1, gl8, size + 8 + l5.length, st6, by omega, by omega, by go_num, by go_num, rfl, HF9.out.1, HF9.out.2, HF.out.2.2.1, HF.out.2.2.2, by omega⟩
            case measure => (simp [intOf] <;> omega)
        · have hagI : ¬ (k : Int) < bl.length := by omega
          go_wp2_with fail
          go_roundw
          case rel => exact ⟨k + 1, gk, size + 8 + l5.length, st6, by omega, by omega, by go_num, by go_num, rfl, HF.out.1, HF.out.2.1, HF.out.2.2.1, HF.out.2.2.2, by omega⟩
          case measure => (simp [intOf] <;> omega)
    · have SC := Scan_at at4
      have CO := fun (W : World) (s : Same [gk] Y W) => Count_any W gk g _ _ (s.blk (x := gk) (by simp) bl4)
      have hlk := im4.look at4.pages.2
      have hlb : st.look.bad = false := by rw [hlk]
      have hlr : st.look.recs = ls.take k := by rw [hlk]
      have rt := fun w => run_to2 Al nl cl k hk1 hcl.1 w
      have HC := Lib.hid (And.intro cm4.dead (And.intro hlb (And.intro hlr CO)))
      replace SC := Lib.hid SC
      clear at4 bl4 cm4 im4 hlk hlb hlr CO
      have h3 : k = nl ∨ (k < nl ∧ k = 20) := by omega
      clear hk
      rcases h3 with rfl | ⟨hka, rfl⟩
      case' inr => have hkI : ((20 : Nat) : Int) < nl := by omega
      all_goals
        go_wp2_with fail
        refine SC.out.mono ?_
        rintro e y8 ⟨sc, a8, s8⟩
        obtain ⟨A8, n8, c8, rfl, sls8⟩ := sc.good HC.out.1 HC.out.2.1
        rw [HC.out.2.2.1] at sls8
        have RW := rows_any y8 _ _ _ _ _ _ sls8.sls ((a8.sls HL.out.1).to hk1)
        rw [decide_eq_true rfl] at RW
        replace RW := Lib.hid RW
        have HF8 := Lib.hid (And.intro a8 s8)
        clear a8 s8 sls8 sc SC
        go_wp2_with fail
        refine RW.out.mono ?_
        rintro e y9 ⟨rfl, t9⟩
        have CO := Lib.hid (HC.out.2.2.2 y9 (HF8.out.2.trans (HF8.out.1.same t9)))
        have HF9 := Lib.hid (HF8.out.1.turn t9 (by simp)).bel
        clear t9 RW
        go_wp2_with fail
        refine CO.out.mono ?_
        rintro e ww ⟨rfl, rfl⟩
        go_wp2_with fail
        go_ret
        exact ⟨rfl, HF9.out⟩
end Go.Proofs.Ytdhbaepmbgoobaa
