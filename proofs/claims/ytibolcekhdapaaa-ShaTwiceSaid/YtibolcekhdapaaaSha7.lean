/- sha.hasher.sum, walked. -/
import Derived.Test.YtibolcekhdapaaaSha6
import Derived.Test.YtibolcekhdapaaaRegm
namespace Go.Proofs.Ytibolcekhdapaaa
open Go.RowKit
set_option linter.unusedVariables false
set_option maxRecDepth 10000
set_option linter.unusedSimpArgs false
set_option linter.unnecessarySimpa false

theorem u8_val (n k : Nat) : Value.int .u8 (IntKind.u8.wrap ((n : Int) / 2 ^ k)) = u8v (UInt8.ofNat (n / 2 ^ k)) := by
  unfold u8v
  rw [IntKind.wrap_u8, UInt8.toNat_ofNat']
  congr 1
theorem set_h (v o1 o2 o3 : Value) (l : List UInt8) (j : Nat) (x : UInt8) : ([v, o1, o2, o3] ++ bvs l).set (4 + j) (u8v x) = [v, o1, o2, o3] ++ bvs (l.set j x) := by
  rw [List.set_append_right _ _ (by simp)]
  simp [bvs, List.map_set, Nat.add_sub_cancel_left]
section
variable {P : Program} {o : Oper} {a : Act} {w : World} {K : Act → World → Prop} {Q : Exit → Act → World → Prop}
/-- A whole array into its block, in a region that draws its order. -/
theorem wp_store_blk (ty : TypeId) (x y : Operand) (ho : o.op = .store ty x y) (g : Nat) (hx : a.eval x = .pointer (some ⟨g, 0, none⟩)) (cs old : List Value) (t : TypeId) (hy : a.eval y = .agg cs.toArray) (hb : Blk w g old t)
    (hl : old.length = cs.length) (hi : (P.info? ty).map (·.size) = some cs.length) (h1 : ∀ u ∈ cs, u.oneCell' = true)
    (h : ∀ w', Blk w' g cs t → Turns [g] w w' → K (a.put o.dst undef) w') : o.wp P a w K Q := by
  refine wp_store_mid ty x y ho g 0 cs.toArray hx hy (by simpa [hl] using hb.there 0 cs.length (by omega)) (by simpa using hi) (all_oneCell_toArray h1) ?_
  have hb' := hb.setCells cs 0
  rw [spl_whole _ _ hl] at hb'
  exact h _ (by simpa using hb') (by simpa using Turns.setCells (L := [g]) (a := w) (b := g) (.inl (by simp)) cs 0 (Turns.refl [g] w))
end
theorem rangeT {L : List Nat} {a w : World} (h : Turns L a w) {b o : Nat} {cs : List Value} (r : a.rangeAt b o cs) (hb : b ∉ L) : w.rangeAt b o cs := fun j v hv => cellL h (r j v hv) hb

set_option maxRecDepth 100000 in
set_option maxHeartbeats 4000000 in
theorem sum_any {W0 w : World} {v : Value} {b : List UInt8} (g : Nat) (o1 o2 o3 : Value) (hb : List UInt8) (h : Mine W0 w v b) (hm : b.length ≤ 1000000000) (hg : Blk w g ([v, o1, o2, o3] ++ bvs hb) 53) (hl : hb.length = 32) (hgW : W0.heap.size ≤ g) (hvg : v.ownBlock ≠ some g) :
    Calls Try.prog 16 #[.pointer (some ⟨g, 0, none⟩)] w fun e w' => e = .returned (.tuple #[]) ∧ Blk w' g ([v, o1, o2, o3] ++ bvs (sha b)) 53 ∧ Turns [] W0 w' := by
  obtain ⟨res, hres⟩ : ∃ r, r = sha b := ⟨_, rfl⟩
  rw [← hres]
  have HRES := Lib.hid hres
  have BG := Lib.hid (begun_any w)
  have H0 := Lib.hid (And.intro h hg)
  have hz8 := zero_w8
  have hkl := shaH_len
  have hzl := zerosW_len 8
  generalize hzz : u32s (zerosW 8) = zz at hz8 hzl
  generalize hss : u32s shaH = ss at BG hkl
  have hs1 : ∀ u ∈ ss, u.oneCell' = true := by rw [← hss]; exact u32s_one _
  have HS := Lib.hid hss
  have Q_s1 := Lib.hid hs1
  have Q_len := Lib.hid (show zz.length = ss.length by rw [hkl, hzl])
  have Q_sz := Lib.hid (show (Try.prog.info? 64).map (·.size) = some ss.length by rw [size_w8, hkl])
  have HL := Lib.hid (And.intro hl hvg)
  clear hres h hg hkl hzl hzz hss hs1 hl hvg
  go_enter Try.func16, Try.ntmps16
  go_wp2_with fail
  refine BG.out.mono ?_
  rintro e x1 ⟨rfl, t1⟩
  have hg1 := H0.out.2.turns t1 (by simp)
  have m1 := H0.out.1.on t1
  have b2 := Blk.new x1 zz 64
  have ta : Turns [] x1 (x1.alloc (.cells zz.toArray 64)) := (Turns.refl _ _).alloc _
  have Q_b2 := Lib.hid b2
  have H1 := Lib.hid (And.intro m1 (And.intro hg1 (And.intro ta t1)))
  clear t1 hg1 m1 b2 ta BG
  go_upto_region 1 with (first
    | (refine wpList_alloc_arr rfl 64 rfl zz.toArray hz8 ?_)
    | (refine wpList_store_blk rfl 64 (.tmp 2) (.tmp 5) rfl x1.heap.size (by kernel_rfl) ss zz 64 (by kernel_rfl) Q_b2.out Q_len.out Q_sz.out Q_s1.out (fun y1 hb1 ht1 hs1 => ?_); have HQ := Lib.hid (And.intro hb1 ht1); clear hb1 ht1 hs1)
    | fail)
  simp only [Act.put, List.setIfInBounds_toArray, List.set_cons_succ, List.set_cons_zero]
  have tx := H1.out.2.2.1.trans HQ.out.2 (by intro x hx; simp at hx; subst hx; exact .inr (Nat.le_refl _))
  have hg2 := H1.out.2.1.turns tx (by simp)
  have m2 := H1.out.1.on tx
  have hgx := H1.out.2.1.lt
  have hvx : ∀ k, v.ownBlock = some k → k < x1.heap.size := fun k hk => (H1.out.1.own.lt k (by simpa using hk)).2
  have hW0x := H1.out.1.turns.size
  obtain ⟨p2, hp2⟩ : ∃ p, p = x1.heap.size := ⟨_, rfl⟩
  rw [← hp2] at hgx hvx hW0x HQ ⊢
  have bp := HQ.out.1
  have c0 := hg2.cell 0
  simp only [List.cons_append, List.getElem?_cons_zero] at c0
  have PD := Lib.hid (padded_any (MineL.of m2) hm)
  have M2 := Lib.hid m2
  have HG2 := Lib.hid (And.intro hg2 bp)
  have HV := Lib.hid (And.intro hvx (And.intro hgx hW0x))
  have HM := Lib.hid hm
  clear H0 H1 hp2 hz8 HQ tx hg2 m2 hgx hvx hW0x bp hm
  go_wp2_with fail
  refine PD.out.mono ?_
  rintro e x2 ⟨v', rfl, m3'⟩
  have hg3 := HG2.out.1.turns m3'.turns (by have := HL.out.2; intro hh; exact this (by simpa using hh))
  have b3 := HG2.out.2.turns m3'.turns (by intro hh; have := HV.out.1 p2 (by simpa using hh); omega)
  have m3 := MineL.mine M2.out m3'
  have hdl := padded_len b
  have hst := sha_st b
  have HD0 : (padded b).length ≤ 2000000000 := by
    rw [padded_eq, List.length_append, padK_len, beTo_len]
    have := padZ_lt b.length
    have := HM.out
    omega
  obtain ⟨d, hd⟩ : ∃ d, d = padded b := ⟨_, rfl⟩
  rw [← hd] at m3 hdl hst HD0
  have HD := Lib.hid (And.intro hdl hst)
  obtain ⟨A, c, rfl, hc⟩ := m3.len
  have s3 := m3.sl
  have hgp : g < p2 := HV.out.2.1
  have hx2 := b3.lt
  have hAp : ∀ x, A = some x → x.block ≠ p2 := by
    intro x hx hh
    subst hx
    rcases m3'.lies x.block rfl with h1 | h1
    · have := HV.out.1 _ (by simpa using h1); omega
    · have := HG2.out.2.lt; omega
  have H3 := Lib.hid (And.intro hg3 (And.intro b3 (And.intro s3 (And.intro m3.turns hAp))))
  clear PD M2 HG2 hAp hg3 b3 m3 m3' hd hdl hst s3 c0
  go_wp2_with fail
  go_loopw [3] (fun u wr => ∃ (k n : Nat) (A : Option Addr) (c : Nat), n + 64 * k = d.length ∧ u = .slice A n c ∧ Sl wr x2.heap.size 1 (.slice A n c) n (bvs (d.drop (64 * k))) ∧ Blk wr p2 (u32s (stP d k)) 64 ∧ Blk wr g ([v, o1, o2, o3] ++ bvs hb) 53 ∧ Turns [p2] x2 wr ∧ (∀ x, A = some x → x.block ≠ p2)) (fun u _ => vlen u)
  case atStart => exact ⟨0, d.length, A, c, by omega, rfl, by simpa using H3.out.2.2.1, by rw [show stP d 0 = shaH from rfl, HS.out]; exact H3.out.2.1, H3.out.1, Turns.refl _ _, H3.out.2.2.2.2⟩
  case round =>
    have H3W := Lib.hid H3.out.2.2.2.1
    clear H3
    obtain ⟨k, n, A1, c1, hn, rfl, s4, b4, g4, t4, a4⟩ := hrel
    have HA4 := Lib.hid a4
    clear a4
    have hd64 := HD.out.1
    by_cases hlt : 0 < n
    · have hn64 : 64 ≤ n := by omega
      obtain ⟨A', c', hv', hnc, hcm, _, _⟩ := s4.form
      injection hv' with e1 e2 e3
      subst e1 e3
      have hT : Turns [] wr wr.drew := (Turns.refl _ _).drew
      have hle := t4.size
      have S5 : Sl wr.drew x2.heap.size 1 (.slice A1 64 c1) 64 (bvs ((d.drop (64 * k)).take 64)) := by
        rw [← bvs_take]; exact (s4.to hn64).drew
      have AD := addF_any (stP d k) (stP_len d k) A1 64 c1 _ x2.heap.size wr.drew S5 hle (Nat.le_refl _)
      have hul : (u32s (stP d k)).length = 8 := by rw [u32s_length, stP_len]
      have hul' : (u32s (stP d (k + 1))).length = 8 := by rw [u32s_length, stP_len]
      have h1' := u32s_one (stP d (k + 1))
      rw [show take1 (stP d k) ((d.drop (64 * k)).take 64) = stP d (k + 1) from rfl] at AD
      generalize hus : u32s (stP d k) = us at AD b4 hul
      generalize hus' : u32s (stP d (k + 1)) = us' at AD hul' h1'
      have r4 := b4.range 0 8
      rw [List.drop_zero, List.take_of_length_le (by omega)] at r4
      have HT4 := Lib.hid (And.intro b4 g4)
      have TT4 := Lib.hid t4
      have S4 := Lib.hid s4
      have hsz : (Try.prog.info? 64).map (·.size) = some us.length := by rw [size_w8, hul]
      have HSZ := Lib.hid hsz
      have HSZ' := Lib.hid (show (Try.prog.info? 64).map (·.size) = some us'.length by rw [size_w8, hul'])
      have R4 := Lib.hid r4
      have HUL := Lib.hid (show us.length = us'.length by rw [hul, hul'])
      have AH := Lib.hid AD
      have H1' := Lib.hid h1'
      have HUS := Lib.hid hus'
      have hc64 : (64 : Int) ≤ (c1 : Int) := by omega
      have hn64i : (64 : Int) ≤ (n : Int) := by omega
      have hn0 : (0 : Int) < (n : Int) := by omega
      clear b4 g4 t4 s4 r4 hul hul' hd64 HD S5 AD h1' hsz hus hus'
      go_upto_region 4 with fail
      refine reg_begin (fun _ => True) (fun W => Turns [] wr W) 4 5 #[false, false, false, false, false] (by kernel_rfl) (by kernel_rfl) (by kernel_rfl) ?_
      refine reg_take_yt 0 16 4 #[true, false, false, false, false] (by rfl) rfl rfl (by kernel_rfl) (by kernel_rfl) (by kernel_rfl) (by kernel_rfl) (fun _ _ _ h => h) (by kernel_rfl) (by kernel_rfl) (yieldsIf_load_mid (by rfl) _ _ rfl p2 0 (by rfl) _ _ (fun W hS => rangeT hS.2 R4.out (by simp)) Try.underlying64 rfl HSZ.out) (Till.mk' trivial hT) ?_
      try simp only [List.setIfInBounds_toArray, List.set_cons_succ, List.set_cons_zero]
      refine reg_take 1 17 3 #[true, true, false, false, false] (by rfl) (v := ?_) rfl rfl (by kernel_rfl) (by kernel_rfl) (by kernel_rfl) (by kernel_rfl) (fun _ _ _ h => h) (by rfl) ?_ (Till.mk' trivial hT) ?_
      rotate_left
      · intro W hS; go_simp; all_goals with_reducible rfl
      try simp only [List.setIfInBounds_toArray, List.set_cons_succ, List.set_cons_zero]
      refine reg_take 2 18 2 #[true, true, true, false, false] (by rfl) (v := ?_) rfl rfl (by kernel_rfl) (by kernel_rfl) (by kernel_rfl) (by kernel_rfl) (fun _ _ _ h => h) (by rfl) ?_ (Till.mk' trivial hT) ?_
      rotate_left
      · intro W hS; go_simp; all_goals with_reducible rfl
      try simp only [List.setIfInBounds_toArray, List.set_cons_succ, List.set_cons_zero]
      refine reg_one 3 1 #[true, true, true, true, false] (by kernel_rfl) rfl (by rfl) (by kernel_rfl) (fun K hK => ?_)
      go_simp
      refine AH.out.mono ?_
      rintro e w5 ⟨rfl, t5⟩
      refine hK _ _ (Till.mk' trivial (hT.trans t5 (by simp))) ?_
      clear hK K
      try simp only [List.setIfInBounds_toArray, List.set_cons_succ, List.set_cons_zero]
      refine reg_one 4 0 #[true, true, true, true, true] (by kernel_rfl) rfl (by rfl) (by kernel_rfl) (fun K hK => ?_)
      refine wp_store_blk 64 _ _ (by rfl) p2 (by rfl) us' us 64 (by rfl) ((HT4.out.1.turns hT (by simp)).turns t5 (by simp)) HUL.out HSZ'.out H1'.out (fun w6 hb6 ht6 => ?_)
      refine hK _ _ (Till.past trivial (by kernel_rfl)) ?_
      clear hK K
      try simp only [List.setIfInBounds_toArray, List.set_cons_succ, List.set_cons_zero]
      refine reg_done (by kernel_rfl) ?_ _
      have S6 : Sl wr x2.heap.size 1 (.slice (if c1 = 64 then A1 else A1.map fun x => (⟨x.block, x.off + 64, none⟩ : Addr)) (n - 64) (c1 - 64)) (n - 64) (bvs (d.drop (64 * (k + 1)))) := by
        have e : (bvs (d.drop (64 * k))).drop 64 = bvs (d.drop (64 * (k + 1))) := by rw [bvs_drop, List.drop_drop]; rfl
        rw [← e]
        by_cases h64 : c1 = 64
        · rw [if_pos h64]; exact S4.out.from_end hn64 h64
        · rw [if_neg h64]; exact S4.out.from_ hn64 h64
      have HS6 := Lib.hid S6
      have hx := HV.out.2.1
      have hA6 := Lib.hid (show (Value.slice (if c1 = 64 then A1 else A1.map fun x => (⟨x.block, x.off + 64, none⟩ : Addr)) (n - 64) (c1 - 64)).ownBlock ≠ some p2 by
        intro hh
        have ha := HA4.out
        cases A1 with
        | none => by_cases h64 : c1 = 64 <;> simp [h64, Value.ownBlock] at hh
        | some x => exact ha x rfl (by by_cases h64 : c1 = 64 <;> simpa [h64, Value.ownBlock] using hh))
      have HT6 : Turns [p2] wr w6 := ((hT.trans t5 (by simp)).mono (by simp)).trans ht6 (by simp)
      have H6 := Lib.hid (And.intro (HT6.slice HS6.out hle (by intro x hx hh; simp at hx; subst hx; exact hA6.out hh)) (And.intro hb6 (And.intro (HT4.out.2.turns HT6 (by simp; omega)) (TT4.out.trans HT6 (by simp)))))
      clear S6 HT6 t5 ht6 hb6 hT hx
      go_wp2_with fail
      go_roundw
      case rel => exact ⟨k + 1, n - 64, _, _, by omega, rfl, H6.out.1, by rw [HUS.out]; exact H6.out.2.1, H6.out.2.2.1, H6.out.2.2.2, by intro x hx hh; exact hA6.out (by simp [Value.ownBlock, hx, hh])⟩
      case measure => (simp [vlen] <;> omega)
    · obtain rfl : n = 0 := by omega
      have hk : d.length / 64 = k := by omega
      have hres : sha b = outSha (stP d k) := by rw [HD.out.2, hk]
      have hsl := stP_len d k
      obtain ⟨st, hst⟩ : ∃ st, st = stP d k := ⟨_, rfl⟩
      rw [← hst] at hres b4 hsl
      have HR := Lib.hid (And.intro hres hsl)
      have H4 := Lib.hid (And.intro b4 (And.intro g4 t4))
      have hx := HV.out.2.1
      clear hres b4 g4 t4 s4 hn hd64 hk hst hsl HD HA4
      go_wp2_with fail
      go_loopw [20] (fun i wr => ∃ j : Nat, j ≤ 32 ∧ i = .int .i64 j ∧ Blk wr p2 (u32s st) 64 ∧ Blk wr g ([v, o1, o2, o3] ++ bvs (outTo st j hb)) 53 ∧ Turns [g, p2] x2 wr) (fun i _ => 32 - (intOf i).toNat)
      case atStart => exact ⟨0, by omega, rfl, H4.out.1, H4.out.2.1, H4.out.2.2.mono (by simp)⟩
      case round =>
        clear H4
        obtain ⟨j, hj, rfl, b5, g5, t5⟩ := hrel
        by_cases hlt : j < 32
        · have hji : (j : Int) < 32 := by omega
          have hT : Turns [] wr wr.drew := (Turns.refl _ _).drew
          have cj := b5.cell (j / 4)
          rw [u32s_get st _ (by rw [HR.out.2]; omega)] at cj
          have q2 : (j : Int).tmod 4 = (j : Int) % 4 := Int.tmod_eq_emod_of_nonneg (by omega)
          have w0 : IntKind.i64.wrap ((j : Int) / 4) = (j : Int) / 4 := IntWalk.i64_in _ (by omega)
          have p0 : 0 ≤ (j : Int) / 4 := by omega
          have p8 : (j : Int) / 4 < 8 := by omega
          have tn : ((j : Int) / 4).toNat = j / 4 := by omega
          have w1 : IntKind.i64.wrap (8 * ((j : Int) % 4)) = 8 * ((j : Int) % 4) := IntWalk.i64_in _ (by omega)
          have w2 : IntKind.i64.wrap (24 - 8 * ((j : Int) % 4)) = 24 - 8 * ((j : Int) % 4) := IntWalk.i64_in _ (by omega)
          have w3 : 0 ≤ 24 - 8 * ((j : Int) % 4) := by omega
          have hol : (outTo st j hb).length = 32 := by rw [outTo_len]; exact HL.out.1
          have cg : wr.cell? ⟨g, 4 + j, none⟩ = some (u8v ((outTo st j hb).getD j 0)) := by
            rw [g5.cell]
            simp [List.getElem?_append, bvs, Nat.add_comm 4 j, List.getD, List.getElem?_eq_getElem (show j < (outTo st j hb).length by omega)]
          have fg := g5.free (4 + j)
          generalize u8v ((outTo st j hb).getD j 0) = cgv at cg
          obtain ⟨sj, hsj⟩ : ∃ sj, sj = st.getD (j / 4) 0 := ⟨_, rfl⟩
          rw [← hsj] at cj
          have SJ := Lib.hid hsj
          clear hsj
          have H5 := Lib.hid (And.intro b5 (And.intro g5 t5))
          clear b5 g5 t5 hol
          go_upto_region 8 with fail
          refine reg_begin (fun _ => True) (fun W => Turns [] wr W) 15 16 #[false, false, false, false, false, false, false, false, false, false, false, false, false, false, false, false] (by kernel_rfl) (by kernel_rfl) (by kernel_rfl) ?_
          refine reg_take 0 23 15 #[true, false, false, false, false, false, false, false, false, false, false, false, false, false, false, false] (by rfl) (v := ?_) rfl rfl (by kernel_rfl) (by kernel_rfl) (by kernel_rfl) (by kernel_rfl) (fun _ _ _ h => h) (by rfl) ?_ (Till.mk' trivial hT) ?_
          rotate_left
          · intro W hS; go_simp; all_goals with_reducible rfl
          try simp only [List.setIfInBounds_toArray, List.set_cons_succ, List.set_cons_zero]
          refine reg_take 1 24 14 #[true, true, false, false, false, false, false, false, false, false, false, false, false, false, false, false] (by rfl) (v := ?_) rfl rfl (by kernel_rfl) (by kernel_rfl) (by kernel_rfl) (by kernel_rfl) (fun _ _ _ h => h) (by rfl) ?_ (Till.mk' trivial hT) ?_
          rotate_left
          · intro W hS; go_simp; all_goals with_reducible rfl
          try simp only [List.setIfInBounds_toArray, List.set_cons_succ, List.set_cons_zero]
          refine reg_take 2 25 13 #[true, true, true, false, false, false, false, false, false, false, false, false, false, false, false, false] (by rfl) (v := ?_) rfl rfl (by kernel_rfl) (by kernel_rfl) (by kernel_rfl) (by kernel_rfl) (fun _ _ _ h => h) (by rfl) ?_ (Till.mk' trivial hT) ?_
          rotate_left
          · intro W hS; go_simp; all_goals with_reducible rfl
          try simp only [List.setIfInBounds_toArray, List.set_cons_succ, List.set_cons_zero]
          refine reg_take 3 26 12 #[true, true, true, true, false, false, false, false, false, false, false, false, false, false, false, false] (by rfl) (v := ?_) rfl rfl (by kernel_rfl) (by kernel_rfl) (by kernel_rfl) (by kernel_rfl) (fun _ _ _ h => h) (by rfl) ?_ (Till.mk' trivial hT) ?_
          rotate_left
          · intro W hS; go_simp; all_goals with_reducible rfl
          try simp only [List.setIfInBounds_toArray, List.set_cons_succ, List.set_cons_zero]
          refine reg_take 4 27 11 #[true, true, true, true, true, false, false, false, false, false, false, false, false, false, false, false] (by rfl) (v := ?_) rfl rfl (by kernel_rfl) (by kernel_rfl) (by kernel_rfl) (by kernel_rfl) (fun _ _ _ h => h) (by rfl) ?_ (Till.mk' trivial hT) ?_
          rotate_left
          · intro W hS; go_simp; all_goals with_reducible rfl
          try simp only [List.setIfInBounds_toArray, List.set_cons_succ, List.set_cons_zero]
          refine reg_take_t 5 28 10 #[true, true, true, true, true, true, false, false, false, false, false, false, false, false, false, false] (by rfl) (v := ?_) rfl rfl (by kernel_rfl) (by kernel_rfl) (by kernel_rfl) (by kernel_rfl) (fun _ _ _ h => h) (by rfl) (by kernel_rfl) (by kernel_rfl) ?_ (Till.mk' trivial hT) ?_
          rotate_left
          · rintro W ⟨-, hS⟩; have c2 := cellL hS cj (by simp); go_simp; all_goals with_reducible rfl
          try simp only [List.setIfInBounds_toArray, List.set_cons_succ, List.set_cons_zero]
          refine reg_take 6 29 9 #[true, true, true, true, true, true, true, false, false, false, false, false, false, false, false, false] (by rfl) (v := ?_) rfl rfl (by kernel_rfl) (by kernel_rfl) (by kernel_rfl) (by kernel_rfl) (fun _ _ _ h => h) (by rfl) ?_ (Till.mk' trivial hT) ?_
          rotate_left
          · intro W hS; go_simp; all_goals with_reducible rfl
          try simp only [List.setIfInBounds_toArray, List.set_cons_succ, List.set_cons_zero]
          refine reg_take 7 30 8 #[true, true, true, true, true, true, true, true, false, false, false, false, false, false, false, false] (by rfl) (v := ?_) rfl rfl (by kernel_rfl) (by kernel_rfl) (by kernel_rfl) (by kernel_rfl) (fun _ _ _ h => h) (by rfl) ?_ (Till.mk' trivial hT) ?_
          rotate_left
          · intro W hS; go_simp; all_goals with_reducible rfl
          try simp only [List.setIfInBounds_toArray, List.set_cons_succ, List.set_cons_zero]
          refine reg_take 8 31 7 #[true, true, true, true, true, true, true, true, true, false, false, false, false, false, false, false] (by rfl) (v := ?_) rfl rfl (by kernel_rfl) (by kernel_rfl) (by kernel_rfl) (by kernel_rfl) (fun _ _ _ h => h) (by rfl) ?_ (Till.mk' trivial hT) ?_
          rotate_left
          · intro W hS; go_simp; all_goals with_reducible rfl
          try simp only [List.setIfInBounds_toArray, List.set_cons_succ, List.set_cons_zero]
          refine reg_take 9 32 6 #[true, true, true, true, true, true, true, true, true, true, false, false, false, false, false, false] (by rfl) (v := ?_) rfl rfl (by kernel_rfl) (by kernel_rfl) (by kernel_rfl) (by kernel_rfl) (fun _ _ _ h => h) (by rfl) ?_ (Till.mk' trivial hT) ?_
          rotate_left
          · intro W hS; go_simp; all_goals with_reducible rfl
          try simp only [List.setIfInBounds_toArray, List.set_cons_succ, List.set_cons_zero]
          refine reg_take 10 33 5 #[true, true, true, true, true, true, true, true, true, true, true, false, false, false, false, false] (by rfl) (v := ?_) rfl rfl (by kernel_rfl) (by kernel_rfl) (by kernel_rfl) (by kernel_rfl) (fun _ _ _ h => h) (by rfl) ?_ (Till.mk' trivial hT) ?_
          rotate_left
          · intro W hS; go_simp; all_goals with_reducible rfl
          try simp only [List.setIfInBounds_toArray, List.set_cons_succ, List.set_cons_zero]
          refine reg_take 11 34 4 #[true, true, true, true, true, true, true, true, true, true, true, true, false, false, false, false] (by rfl) (v := ?_) rfl rfl (by kernel_rfl) (by kernel_rfl) (by kernel_rfl) (by kernel_rfl) (fun _ _ _ h => h) (by rfl) ?_ (Till.mk' trivial hT) ?_
          rotate_left
          · intro W hS; go_simp; all_goals with_reducible rfl
          try simp only [List.setIfInBounds_toArray, List.set_cons_succ, List.set_cons_zero]
          refine reg_take 12 35 3 #[true, true, true, true, true, true, true, true, true, true, true, true, true, false, false, false] (by rfl) (v := ?_) rfl rfl (by kernel_rfl) (by kernel_rfl) (by kernel_rfl) (by kernel_rfl) (fun _ _ _ h => h) (by rfl) ?_ (Till.mk' trivial hT) ?_
          rotate_left
          · intro W hS; go_simp; all_goals with_reducible rfl
          try simp only [List.setIfInBounds_toArray, List.set_cons_succ, List.set_cons_zero]
          refine reg_take 13 36 2 #[true, true, true, true, true, true, true, true, true, true, true, true, true, true, false, false] (by rfl) (v := ?_) rfl rfl (by kernel_rfl) (by kernel_rfl) (by kernel_rfl) (by kernel_rfl) (fun _ _ _ h => h) (by rfl) ?_ (Till.mk' trivial hT) ?_
          rotate_left
          · intro W hS; go_simp; all_goals with_reducible rfl
          try simp only [List.setIfInBounds_toArray, List.set_cons_succ, List.set_cons_zero]
          refine reg_take 14 37 1 #[true, true, true, true, true, true, true, true, true, true, true, true, true, true, true, false] (by rfl) (v := ?_) rfl rfl (by kernel_rfl) (by kernel_rfl) (by kernel_rfl) (by kernel_rfl) (fun _ _ _ h => h) (by rfl) ?_ (Till.mk' trivial hT) ?_
          rotate_left
          · intro W hS; go_simp; all_goals with_reducible rfl
          try simp only [List.setIfInBounds_toArray, List.set_cons_succ, List.set_cons_zero]
          refine reg_one 15 0 #[true, true, true, true, true, true, true, true, true, true, true, true, true, true, true, true] (by kernel_rfl) rfl (by rfl) (by kernel_rfl) (fun K hK => ?_)
          go_simp
          refine hK _ _ (Till.past trivial (by kernel_rfl)) ?_
          clear hK K
          try simp only [List.setIfInBounds_toArray, List.set_cons_succ, List.set_cons_zero]
          refine reg_done (by kernel_rfl) ?_ _
          have e24 : (24 - 8 * ((j : Int) % 4)).toNat = 24 - 8 * (j % 4) := by omega
          rw [e24, u8_val]
          have g6 := ((H5.out.2.1.set (4 + j) (u8v (UInt8.ofNat ((st.getD (j / 4) 0).toNat / 2 ^ (24 - 8 * (j % 4)))))).drew)
          rw [set_h, ← outTo] at g6
          have t6 := (((Turns.refl [g, p2] wr).setCell (p := ⟨g, 4 + j, none⟩) (.inl (by simp)) (u8v (UInt8.ofNat ((st.getD (j / 4) 0).toNat / 2 ^ (24 - 8 * (j % 4)))))).drew)
          have b6 := (H5.out.1.other (p := ⟨g, 4 + j, none⟩) (by simp; omega) (u8v (UInt8.ofNat ((st.getD (j / 4) 0).toNat / 2 ^ (24 - 8 * (j % 4)))))).drew
          rw [← SJ.out] at g6 t6 b6 
          have H6 := Lib.hid (And.intro b6 (And.intro g6 (H5.out.2.2.trans t6 (by simp))))
          clear b6 g6 t6 e24 hT
          go_wp2_with fail
          go_roundw
          case rel => exact ⟨j + 1, by omega, by go_num, H6.out⟩
          case measure => (simp [intOf] <;> omega)
        · obtain rfl : j = 32 := by omega
          rw [outTo_all _ _ HL.out.1, ← HR.out.1, ← HRES.out] at g5
          have H5 := Lib.hid (And.intro g5 t5)
          have H3X := H3W.out
          have hgW' := hgW
          clear b5 g5 t5
          go_wp2_with fail
          go_end0
          refine ⟨rfl, H5.out.1, H3X.trans H5.out.2 ?_⟩
          intro x hx
          have := HV.out.2.2
          simp at hx
          rcases hx with rfl | rfl <;> right <;> omega
end Go.Proofs.Ytibolcekhdapaaa
