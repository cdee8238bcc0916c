/- A block is closed, walked. -/
import Derived.Test.YtoahnhphfabajaaGreatLdL
namespace Go.Proofs.YtoahnhphfabajaaGreat
open Go.RowKit
set_option linter.unusedVariables false
set_option maxRecDepth 10000
set_option linter.unusedSimpArgs false
set_option linter.unnecessarySimpa false

/-- A ledger that is about to be closed: its rows of blocks and of transactions are its own. -/
structure ClR (B M p : Nat) (w : World) (ov bv tv : Value) (L : Led) : Prop where
  opn : Deep TxR w (SX B M [bv, tv, PV p]) 2 ov L.opn
  blks : w.ownsRow B 70 66 bv L.blks.length (bloCells L.blks)
  txs : DeepO TxsR w (SX B M [bv, tv, PV p]) 1 B 25 tv L.txs
  bt : ∀ k, bv.ownBlock = some k → tv.ownBlock ≠ some k
  bp : bv.ownBlock ≠ some p
  tp : tv.ownBlock ≠ some p
theorem ClR.on {B M p : Nat} {w w' : World} {ov bv tv : Value} {L : Led} (h : ClR B M p w ov bv tv L) (t : Turns [] w w') : ClR B M p w' ov bv tv L :=
  ⟨h.opn.keep TxR.lasts (t.keeps0 _), own_v0 h.blks t, h.txs.keep TxsR.lasts t (by simp) (by simp), h.bt, h.bp, h.tp⟩
set_option maxRecDepth 100000 in
set_option maxHeartbeats 8000000 in
theorem close_any (L : Led) (hL : L.ok) (B M p : Nat) (o1 o2 o3 ov bv tv : Value) (w : World) (hp : Blk w p [.int .i64 L.next, ov, bv, tv, o1, o2, o3] 101) (hc : ClR B M p w ov bv tv L) (hB : B ≤ w.heap.size) (hBp : B ≤ p) :
    Calls Tryz.prog 33 #[.pointer (some ⟨p, 0, none⟩)] w fun e w' => e = .returned (.tuple #[]) ∧ ∃ bv' tv', Blk w' p [.int .i64 L.next, .slice none 0 0, bv', tv', o1, o2, o3] 101 ∧ LedR w' (fun b => B ≤ b ∧ b ≠ p) (.slice none 0 0) bv' tv' (closeL L) ∧ Turns (p :: (bv.ownBlock.toList ++ tv.ownBlock.toList)) w w' := by
  obtain ⟨Ao, co, rfl, _⟩ := hc.opn.form
  obtain ⟨n, hn⟩ : ∃ n, n = L.opn.length := ⟨_, rfl⟩
  have hn1 : n ≤ 1000 := by rw [hn]; exact hL.opn
  have HN := Lib.hid hn
  have HL := Lib.hid hL
  have HP := Lib.hid hp
  have HC := Lib.hid hc
  have HB := Lib.hid (And.intro hB hBp)
  have c1 := hp.cell 1
  simp only [List.getElem?_cons_zero, List.getElem?_cons_succ] at c1
  rw [← hn] at c1
  have hm0 : HMine w w (.slice none 0 0) ((L.opn.map entry).take 0) := by simpa using HMine.nil (Turns.refl [] w)
  have HM0 := Lib.hid hm0
  clear hn hL hp hc hB hBp hm0
  go_enter Tryz.func33, Tryz.ntmps33
  go_wp2_with fail
  go_loopw [2, 4, 13] (fun u y i wr => ∃ (k : Nat) (A' : Option Addr) (c' : Nat), k ≤ n ∧ i = .int .i64 k ∧ u = .slice A' k c' ∧ HMine w wr (.slice A' k c') ((L.opn.map entry).take k)) (fun _ _ i _ => n - (intOf i).toNat)
  case atStart => exact ⟨0, none, 0, by omega, rfl, rfl, HM0.out⟩
  case round =>
    obtain ⟨k, Au, cu, hk, rfl, rfl, m0⟩ := hrel
    have t0 := m0.turns
    by_cases hlt : k < n
    · have hki : (k : Int) < (n : Int) := by omega
      have hkl : k < L.opn.length := by have := HN.out; omega
      obtain ⟨b, off, cc, cs, hv, hS, hb, hcl, rg0, hR0⟩ := HC.out.opn.at_ (by omega) k hkl
      injection hv with e1 e2 e3
      subst e1 e3
      clear e2
      have rg := rangeV t0 rg0
      have hR := hR0.on t0
      clear rg0 hR0
      have hck := HL.out.otx _ (List.getElem_mem hkl)
      have hst : (L.opn.map entry).take (k + 1) = (L.opn.map entry).take k ++ [entry L.opn[k]] := by rw [List.take_succ_eq_append_getElem (by simpa using hkl)]; simp
      obtain ⟨c, hc⟩ : ∃ c, c = L.opn[k] := ⟨_, rfl⟩
      rw [← hc] at hR hck hst
      obtain ⟨rv, rfl, hsl⟩ := hR
      obtain ⟨Ar, cr, rfl, _⟩ := hsl.form
      have hz1 := size_tx c.id (.slice Ar c.chs.length cr)
      obtain ⟨X1, hX1⟩ : ∃ X1, X1 = wr.alloc (.cells #[.int .i64 c.id, .slice Ar c.chs.length cr] 45) := ⟨_, rfl⟩
      have b5 := Blk.new wr [.int .i64 c.id, .slice Ar c.chs.length cr] 45
      rw [show wr.alloc (.cells [.int .i64 c.id, .slice Ar c.chs.length cr].toArray 45) = X1 from hX1.symm] at b5
      obtain ⟨p5, hp5⟩ : ∃ q, q = wr.heap.size := ⟨_, rfl⟩
      rw [← hp5] at b5
      have tX : Turns [] wr X1 := by rw [hX1]; exact (Turns.refl _ _).alloc _
      have r5 := b5.all
      have RE := Lib.hid (CEntry_any c hck (.slice Ar c.chs.length cr) _ X1 (hsl.keep ChgR.lasts (tX.keeps0 _)))
      have HX1 := Lib.hid hX1
      have HP5 := Lib.hid hp5
      have HMX := Lib.hid (m0.on tX)
      have HST := Lib.hid hst
      clear m0 t0 hck hst hc hsl hcl hX1 hp5 tX b5 hb hkl hS
      go_upto_region 4 with (first
        | (refine wpList_load_mid rfl 45 (.tmp 15) rfl b (off + k * 2) rfl _ _ rg Tryz.underlying45 rfl hz1 ?_)
        | fail)
      rw [← HX1.out, ← HP5.out]
      go_wp2_with (first
        | (refine wpList_load_mid rfl 45 (.tmp 4) rfl p5 0 rfl _ _ r5 Tryz.underlying45 rfl hz1 ?_)
        | fail)
      refine RE.out.mono ?_
      rintro e x2 ⟨rfl, t2⟩
      have m2 := HMX.out.on t2
      have hkk : ((L.opn.map entry).take k).length = k := by rw [List.length_take, List.length_map, ← HN.out]; omega
      obtain ⟨v9, w9, hr9, m9⟩ := hmine_push m2 (by rw [hkk]; omega) (entry c) (entry_len _) 68
      rw [← HST.out] at m9
      obtain ⟨A9, c9, rfl, _⟩ := m9.len
      have hk1 : ((L.opn.map entry).take (k + 1)).length = k + 1 := by rw [List.length_take, List.length_map, ← HN.out]; omega
      rw [hk1] at m9 hr9
      have HM9 := Lib.hid m9
      have hl32 := entry_len c
      generalize entry c = h32 at hr9 hl32 ⊢
      clear m2 t2 m9 r5 rg hkk hk1
      go_wp2_with (first
        | (refine wpList_build_hash1 rfl h32 hl32 (.tmp 19) rfl rfl ?_)
        | (at_builtin; refine wpList_append_at rfl (.tmp 17) (.tmp 20) rfl hr9 rfl rfl ?_)
        | fail)
      go_roundw
      case rel => exact ⟨k + 1, A9, c9, by omega, by go_num, rfl, HM9.out⟩
      case measure => (simp [intOf] <;> omega)
    · obtain rfl : k = n := by omega
      rw [List.take_of_length_le (by rw [List.length_map, ← HN.out]; omega)] at m0
      have hcw := HC.out.on t0
      obtain ⟨Ab, cb, rfl⟩ := own_formV hcw.blks
      obtain ⟨At, ct, rfl⟩ := hcw.txs.form
      obtain ⟨nb, hnb⟩ : ∃ x, x = L.blks.length := ⟨_, rfl⟩
      have hnb1 : nb ≤ 100000 := by rw [hnb]; exact HL.out.blks
      have HNB := Lib.hid hnb
      obtain ⟨Y, hY⟩ : ∃ q, q = wr.drew := ⟨_, rfl⟩
      have tY : Turns [] wr Y := by rw [hY]; exact (Turns.refl _ _).drew
      have HYY := Lib.hid hY
      have bY := HP.out.turns (t0.trans tY (by simp)) (by simp)
      have C2 := bY.cell 2
      simp only [List.getElem?_cons_zero, List.getElem?_cons_succ] at C2
      rw [← hnb] at C2
      have hrl := mroot_len _ (entries_all L.opn)
      obtain ⟨rr, hrr⟩ : ∃ r, r = mroot (L.opn.map entry) := ⟨_, rfl⟩
      have hr32 : rr.length = 32 := by rw [hrr]; exact hrl
      have HRR := Lib.hid (And.intro hrr hr32)
      have RR := Root_any k (L.opn.map entry) k (by rw [List.length_map]; exact HN.out.symm) (Nat.le_refl _) (by omega) Au cu Y.heap.size Y ((m0.on tY).hs) (Nat.le_refl _)
      rw [← hrr] at RR
      have HRT := Lib.hid RR
      have HMR := Lib.hid ((m0.on tY).hs)
      have HT0 := Lib.hid t0
      have HTY := Lib.hid tY
      have HBP := Lib.hid (HP.out.turns t0 (by simp))
      have HCW := Lib.hid hcw
      have S0 : Turns [] Y Y := Turns.refl _ _
      clear m0 t0 hcw hnb hY tY bY hrl hrr hr32 RR c1
      go_upto_region 6 with fail
      go_cut [5] (fun u wx => ∃ p5 : Nat, u = .pointer (some ⟨p5, 0, none⟩) ∧ wr.heap.size ≤ p5 ∧ Blk wx p5 (Blo.cells ⟨(nb : Int) + 1, zeros 32, rr, (k : Int)⟩) 70 ∧ Turns [] wr wx)
      case first =>
        refine rk0 (fun _ => True) (fun W => Turns [] Y W) 13 14 ?_
        rw [← HYY.out]
        refine rkA 0 23 1 (v := ?_) ?_ (.mk' trivial S0) ?_
        rotate_left
        · intro W hS; go_simp; all_goals with_reducible rfl
        try simp only [sI, sS, sZ]
        refine rkA 1 24 3 (v := ?_) ?_ (.mk' trivial S0) ?_
        rotate_left
        · intro W hS; go_simp; all_goals with_reducible rfl
        try simp only [sI, sS, sZ]
        refine rkA 2 25 7 (v := ?_) ?_ (.mk' trivial S0) ?_
        rotate_left
        · intro W hS; go_simp; all_goals with_reducible rfl
        try simp only [sI, sS, sZ]
        refine rkA 3 26 15 (v := ?_) ?_ (.mk' trivial S0) ?_
        rotate_left
        · intro W hS; go_simp; all_goals with_reducible rfl
        try simp only [sI, sS, sZ]
        refine rkT 4 27 31 (v := ?_) ?_ (.mk' trivial S0) ?_
        rotate_left
        · rintro W ⟨-, hS⟩; have c0 := cellL hS C2 (by simp); go_simp; all_goals with_reducible rfl
        try simp only [sI, sS, sZ]
        refine rkA 5 28 63 (v := ?_) ?_ (.mk' trivial S0) ?_
        rotate_left
        · intro W hS; go_simp; all_goals with_reducible rfl
        try simp only [sI, sS, sZ]
        refine rkA 6 29 127 (v := ?_) ?_ (.mk' trivial S0) ?_
        rotate_left
        · intro W hS; go_simp; all_goals with_reducible rfl
        try simp only [sI, sS, sZ]
        refine rkA 7 30 255 (v := ?_) ?_ (.mk' trivial S0) ?_
        rotate_left
        · intro W hS; go_simp; all_goals with_reducible rfl
        try simp only [sI, sS, sZ]
        refine rkA 9 32 767 (v := ?_) ?_ (.mk' trivial S0) ?_
        rotate_left
        · intro W hS; go_simp; all_goals with_reducible rfl
        try simp only [sI, sS, sZ]
        refine rkA 10 33 1791 (v := ?_) ?_ (.mk' trivial S0) ?_
        rotate_left
        · intro W hS; go_simp; all_goals with_reducible rfl
        try simp only [sI, sS, sZ]
        refine rk2 8 12 2047 5887 (fun K hK => ?_) (fun K hK => ?_)
        · go_simp
          refine (HRT.out).mono ?_
          rintro e X31 ⟨rfl, D31⟩
          refine hK _ _ (.mk' trivial ((Turns.refl [] Y).trans D31 (by simp))) ?_
          clear hK K
          try simp only [sI, sS, sZ]
          refine rkY 11 34 4095 rfl (yieldsIf_build (by rfl) 70 _ (by rfl) (Blo.cells ⟨(nb : Int) + 1, zeros 32, rr, (k : Int)⟩).toArray (by have h := built_blo ((nb : Int) + 1) (k : Int) rr HRR.out.2; simpa [Act.eval, IntWalk.i64_in ((nb : Int) + 1) (by omega)] using h)) (.mk' trivial ((Turns.refl [] Y).trans D31 (by simp))) ?_
          try simp only [sI, sS, sZ]
          refine rk1 12 8191 (fun K hK => ?_)
          refine wp_alloc_arr 70 (by rfl) blo0.cells.toArray zero_blo ?_
          have b5 : Blk (X31.alloc (.cells blo0.cells.toArray 70)) X31.heap.size blo0.cells 70 := Blk.new _ _ _
          have D5 : Turns [] X31 (X31.alloc (.cells blo0.cells.toArray 70)) := (Turns.refl _ _).alloc _
          obtain ⟨p5, hp5⟩ : ∃ g, g = X31.heap.size := ⟨_, rfl⟩
          rw [← hp5] at b5 ⊢
          generalize X31.alloc (.cells blo0.cells.toArray 70) = X5 at b5 D5 ⊢
          have B5 := Lib.hid hp5
          clear hp5
          refine hK _ _ (.mk' trivial (((Turns.refl [] Y).trans D31 (by simp)).trans D5 (by simp))) ?_
          clear hK K
          try simp only [sI, sS, sZ]
          refine rk1 13 16383 (fun K hK => ?_)
          have b5 := b5.turns (Turns.refl [] X5) (by simp)
          refine wp_store_blk 70 _ _ (by rfl) p5 (by rfl) (Blo.cells ⟨(nb : Int) + 1, zeros 32, rr, (k : Int)⟩) blo0.cells 70 (by rfl) b5 (by rw [Blo.cells_len blo0_ok, blo_len _ _ _ _ (zeros_length 32) HRR.out.2]) (size_blo _ (blo_len _ _ _ _ (zeros_length 32) HRR.out.2)) (Blo.cells_one _) (fun X13 hb13 ht13 => ?_)
          have hlp : wr.heap.size ≤ p5 := by have h1 := HTY.out.size; have h2 := B5.out; have h3 := ((Turns.refl [] Y).trans D31 (by simp)).size; omega
          have HFX := Lib.hid (And.intro hlp (And.intro hb13 ((HTY.out.trans (((Turns.refl [] Y).trans D31 (by simp)).trans D5 (by simp)) (by simp)).trans ht13 (by intro x hx; simp at hx; exact .inr (by omega)))))
          clear hlp
          refine hK _ _ (.p trivial) ?_
          clear hK K
          try simp only [sI, sS, sZ]
          refine rkZ ?_
          go_wp2_with fail
          go_meet
          exact ⟨p5, rfl, HFX.out.1, HFX.out.2.1, HFX.out.2.2⟩
        · refine wp_alloc_arr 70 (by rfl) blo0.cells.toArray zero_blo ?_
          have b5 : Blk (Y.alloc (.cells blo0.cells.toArray 70)) Y.heap.size blo0.cells 70 := Blk.new _ _ _
          have D5 : Turns [] Y (Y.alloc (.cells blo0.cells.toArray 70)) := (Turns.refl _ _).alloc _
          obtain ⟨p5, hp5⟩ : ∃ g, g = Y.heap.size := ⟨_, rfl⟩
          rw [← hp5] at b5 ⊢
          generalize Y.alloc (.cells blo0.cells.toArray 70) = X5 at b5 D5 ⊢
          have B5 := Lib.hid hp5
          clear hp5
          refine hK _ _ (.mk' trivial ((Turns.refl [] Y).trans D5 (by simp))) ?_
          clear hK K
          try simp only [sI, sS, sZ]
          refine rk1 8 6143 (fun K hK => ?_)
          go_simp
          refine ((Root_any k (L.opn.map entry) k (by rw [List.length_map]; exact HN.out.symm) (Nat.le_refl _) (by omega) Au cu Y.heap.size X5 (HMR.out.turns D5 (Nat.le_refl _) (by simp)) D5.size)).mono ?_
          rintro e X31 ⟨rfl, D31⟩
          rw [← HRR.out.1]
          refine hK _ _ (.mk' trivial (((Turns.refl [] Y).trans D5 (by simp)).trans D31 (by simp))) ?_
          clear hK K
          try simp only [sI, sS, sZ]
          refine rkY 11 34 8191 rfl (yieldsIf_build (by rfl) 70 _ (by rfl) (Blo.cells ⟨(nb : Int) + 1, zeros 32, rr, (k : Int)⟩).toArray (by have h := built_blo ((nb : Int) + 1) (k : Int) rr HRR.out.2; simpa [Act.eval, IntWalk.i64_in ((nb : Int) + 1) (by omega)] using h)) (.mk' trivial (((Turns.refl [] Y).trans D5 (by simp)).trans D31 (by simp))) ?_
          try simp only [sI, sS, sZ]
          refine rk1 13 16383 (fun K hK => ?_)
          have b5 := b5.turns ((Turns.refl [] X5).trans D31 (by simp)) (by simp)
          refine wp_store_blk 70 _ _ (by rfl) p5 (by rfl) (Blo.cells ⟨(nb : Int) + 1, zeros 32, rr, (k : Int)⟩) blo0.cells 70 (by rfl) b5 (by rw [Blo.cells_len blo0_ok, blo_len _ _ _ _ (zeros_length 32) HRR.out.2]) (size_blo _ (blo_len _ _ _ _ (zeros_length 32) HRR.out.2)) (Blo.cells_one _) (fun X13 hb13 ht13 => ?_)
          have hlp : wr.heap.size ≤ p5 := by have h1 := HTY.out.size; have h2 := B5.out; have h3 := (Turns.refl [] Y).size; omega
          have HFX := Lib.hid (And.intro hlp (And.intro hb13 ((HTY.out.trans (((Turns.refl [] Y).trans D5 (by simp)).trans D31 (by simp)) (by simp)).trans ht13 (by intro x hx; simp at hx; exact .inr (by omega)))))
          clear hlp
          refine hK _ _ (.p trivial) ?_
          clear hK K
          try simp only [sI, sS, sZ]
          refine rkZ ?_
          go_wp2_with fail
          go_meet
          exact ⟨p5, rfl, HFX.out.1, HFX.out.2.1, HFX.out.2.2⟩
      case rest =>
        generalize wc = wx at *
        obtain ⟨p5, rfl, hp5, b5, tx⟩ := hcut
        clear C2 S0
        have bp := HBP.out.turns tx (by simp)
        have c2 := bp.cell 2
        simp only [List.getElem?_cons_zero, List.getElem?_cons_succ] at c2
        rw [← HNB.out] at c2
        have HX := Lib.hid (And.intro hp5 (And.intro b5 tx))
        clear hp5 b5 tx bp
        go_upto_if 42 with fail
        go_cut [] (fun wy => Blk wy p5 (newBlo L.blks L.opn).cells 70 ∧ Turns [] wr wy)
        case first =>
          by_cases h0 : 0 < nb
          · have h0i : (0 : Int) < (nb : Int) := by omega
            have hbl : 0 < L.blks.length := by have := HNB.out; omega
            obtain ⟨b, off, cc, hv, _, hb, rg⟩ := blo_at (SlS.of_own (S := fun _ => True) (own_v0 HCW.out.blks HX.out.2.2) (fun _ _ => trivial)) HL.out.blo (L.blks.length - 1) (by omega)
            injection hv with e1 e2 e3
            subst e1 e3
            clear e2
            have hck := HL.out.blo _ (List.getElem_mem (show L.blks.length - 1 < L.blks.length by omega))
            have hlast := lastH_get L.blks hbl
            obtain ⟨bl, hbl'⟩ : ∃ c, c = L.blks[L.blks.length - 1]'(by omega) := ⟨_, rfl⟩
            rw [← hbl'] at rg hck hlast
            rw [← HNB.out] at rg
            obtain ⟨cs, hcs⟩ : ∃ c, c = bl.cells := ⟨_, rfl⟩
            rw [← hcs] at rg
            have hz1 := size_blo cs (by rw [hcs]; exact Blo.cells_len hck)
            have CH := CHash_any bl hck wx
            rw [← hcs] at CH
            have HCH := Lib.hid CH
            have HLA := Lib.hid (And.intro hlast (bloH_len bl))
            have hm1 : ((nb : Int) - 1) = ((nb - 1 : Nat) : Int) := by omega
            have hw1 : IntKind.i64.wrap ((nb : Int) - 1) = ((nb - 1 : Nat) : Int) := by rw [IntWalk.i64_in _ (by omega)]; exact hm1
            have hk1 : (((nb - 1 : Nat) : Int)) < (nb : Int) := by omega
            clear hck hlast hbl' hcs CH hb hbl hm1
            go_wp2_with (first
              | (refine wpList_load_mid rfl 70 (.tmp 50) rfl b (off + (nb - 1) * 66) (by kernel_rfl) _ _ rg Tryz.underlying70 rfl hz1 ?_)
              | fail)
            refine HCH.out.mono ?_
            rintro e x2 ⟨rfl, t2⟩
            have b5 := HX.out.2.1.turns t2 (by simp)
            have th := b5.there 1 32 (by rw [blo_len _ _ _ _ (zeros_length 32) HRR.out.2]; omega)
            obtain ⟨hh, hhh⟩ : ∃ h, h = bvs (bloH bl) := ⟨_, rfl⟩
            have hhl : hh.length = 32 := by rw [hhh, bvs_length, HLA.out.2]
            have b6 := b5.setCells (bvs (bloH bl)) 1
            rw [spl_prev _ _ _ _ _ (zeros_length 32) HLA.out.2] at b6
            have heq : (⟨(nb : Int) + 1, bloH bl, rr, (k : Int)⟩ : Blo) = newBlo L.blks L.opn := by
              unfold newBlo
              rw [HLA.out.1, ← HNB.out, ← HN.out, HRR.out.1]
            rw [heq, ← hhh] at b6
            have t6 : Turns [] wr (x2.setCells p5 1 hh) := (HX.out.2.2.trans t2 (by simp)).trans (Turns.setCells (L := [p5]) (.inl (by simp)) hh 1 (Turns.refl _ _)) (by intro x hx; simp at hx; exact .inr (by have := HX.out.1; omega))
            have HFX := Lib.hid (And.intro b6 t6)
            have hsz : (Tryz.prog.info? 53).map (·.size) = some hh.toArray.size := by rw [List.size_toArray, hhl]; exact size_hash
            have h1 : hh.toArray.all (·.oneCell') = true := all_oneCell_toArray (by rw [hhh]; exact bvs_one _)
            rw [← hhh]
            have th : x2.there p5 1 hh.toArray.size := by rw [List.size_toArray, hhl]; exact th
            clear b5 b6 t6 t2 heq hhh hhl rg
            go_wp2_with (first
              | (refine wpList_store_mid rfl 53 (.tmp 53) (.tmp 52) rfl p5 1 hh.toArray (by kernel_rfl) (by kernel_rfl) th hsz h1 ?_)
              | fail)
            go_meet
            exact ⟨HFX.out.1, HFX.out.2⟩
          · have h0i : ¬ (0 : Int) < (nb : Int) := by omega
            have heq : (⟨(nb : Int) + 1, zeros 32, rr, (k : Int)⟩ : Blo) = newBlo L.blks L.opn := by
              have : L.blks = [] := List.eq_nil_of_length_eq_zero (by have := HNB.out; omega)
              unfold newBlo
              rw [this, lastH_nil, ← HN.out, HRR.out.1]
              congr 1
              simp; omega
            have HFX := Lib.hid (show Blk wx p5 (newBlo L.blks L.opn).cells 70 by rw [← heq]; exact HX.out.2.1)
            clear heq
            go_wp2_with fail
            go_meet
            exact ⟨HFX.out, HX.out.2.2⟩
        case rest =>
          generalize wc = wy at *
          obtain ⟨b5, tx⟩ := hcut
          clear c2
          obtain ⟨cs, hcs⟩ : ∃ c, c = (newBlo L.blks L.opn).cells := ⟨_, rfl⟩
          rw [← hcs] at b5
          have hcl : cs.length = 66 := by rw [hcs]; exact Blo.cells_len (newBlo_ok _ _)
          have hc1 : ∀ u ∈ cs, u.oneCell' = true := by rw [hcs]; exact Blo.cells_one _
          have HCS := Lib.hid hcs
          have HCL := Lib.hid (And.intro hcl hc1)
          have hz1 := size_blo cs hcl
          have hcy := HCW.out.on tx
          have bp := HBP.out.turns tx (by simp)
          have HX5 := Lib.hid HX.out.1
          obtain ⟨Z, hZ⟩ : ∃ q, q = wy.drew := ⟨_, rfl⟩
          have tZ : Turns [] wy Z := by rw [hZ]; exact (Turns.refl _ _).drew
          have HZZ := Lib.hid hZ
          have hcz := hcy.on tZ
          have bz := bp.turns tZ (by simp)
          have b5z := b5.turns tZ (by simp)
          have twZ := (HT0.out.trans tx (by simp)).trans tZ (by simp)
          obtain ⟨A8, c8, X8, hr8, o8, t8, l8⟩ := own_push TBlo hcz.blks hcl hc1 (Nat.le_trans HB.out.1 twZ.size) (by have := HNB.out; omega) (by omega) 26
          rw [show L.blks.length = nb from HNB.out.symm] at hr8 o8 t8 l8
          have hKp : p ∉ (Value.slice Ab nb cb).ownBlock.toList := by intro hm; have := hcz.bp; rw [← HNB.out] at this; exact this (by simpa using hm)
          have hwr := HTY.out.size
          have hown := hcz.blks
          have hK5 : p5 ∉ (Value.slice Ab nb cb).ownBlock.toList := by
            intro hm
            have h1 := (HCW.out.blks.lt p5 (by rw [← HNB.out]; simpa using hm)).2
            have := HX5.out
            omega
          have C2 := bz.cell 2
          simp only [List.getElem?_cons_zero, List.getElem?_cons_succ] at C2
          rw [← HNB.out] at C2
          have R5 := b5z.all
          have HK := Lib.hid (And.intro hKp hK5)
          have HCZ := Lib.hid hcz
          have HBZ := Lib.hid bz
          have HTWZ := Lib.hid twZ
          have H8 := Lib.hid (And.intro o8 (And.intro t8 l8))
          have S0 : Turns (Value.slice Ab nb cb).ownBlock.toList Z Z := Turns.refl _ _
          clear hcs hcl hc1 hcy bp hZ tZ hcz bz b5z twZ o8 t8 l8 hKp hK5 hown b5 tx HX
          go_upto_region 10 with fail
          refine rk0 (fun _ => True) (fun W => Turns (Value.slice Ab nb cb).ownBlock.toList Z W) 12 13 ?_
          rw [← HZZ.out]
          refine rkA 0 54 1 (v := ?_) ?_ (.mk' trivial S0) ?_
          rotate_left
          · intro W hS; go_simp; all_goals with_reducible rfl
          try simp only [sI, sS, sZ]
          refine rkA 1 55 3 (v := ?_) ?_ (.mk' trivial S0) ?_
          rotate_left
          · intro W hS; go_simp; all_goals with_reducible rfl
          try simp only [sI, sS, sZ]
          refine rkA 2 56 7 (v := ?_) ?_ (.mk' trivial S0) ?_
          rotate_left
          · intro W hS; go_simp; all_goals with_reducible rfl
          try simp only [sI, sS, sZ]
          refine rkA 3 57 15 (v := ?_) ?_ (.mk' trivial S0) ?_
          rotate_left
          · intro W hS; go_simp; all_goals with_reducible rfl
          try simp only [sI, sS, sZ]
          refine rkA 4 58 31 (v := ?_) ?_ (.mk' trivial S0) ?_
          rotate_left
          · intro W hS; go_simp; all_goals with_reducible rfl
          try simp only [sI, sS, sZ]
          refine rkT 5 59 63 (v := ?_) ?_ (.mk' trivial S0) ?_
          rotate_left
          · rintro W ⟨-, hS⟩; have c0 := cellL hS C2 HK.out.1; go_simp; all_goals with_reducible rfl
          try simp only [sI, sS, sZ]
          refine rkW 6 60 127 rfl (yieldsIf_load_mid (by rfl) _ _ rfl p5 0 (by rfl) cs _ (fun W hS => rangeT hS.2 R5 HK.out.2) Tryz.underlying70 rfl hz1) (.mk' trivial S0) ?_
          try simp only [sI, sS, sZ]
          refine rk1 7 255 (fun K hK => ?_)
          refine wp_build_one TBlo (by omega) (by omega) cs HCL.out.1 (.tmp 60) (by rfl) (by rfl) ?_
          refine hK _ _ (.mk' trivial ((Turns.refl _ _).alloc _)) ?_
          clear hK K
          try simp only [sI, sS, sZ]
          refine rk1 8 511 (fun K hK => ?_)
          refine wp_append_run (P := Tryz.prog) (w := Z.alloc (.cells cs.toArray 70)) (.tmp 59) (.tmp 61) (by rfl) (vs := _) (vx := _) (by rfl) (by rfl) (R := fun v w' => Value.slice A8 (nb + 1) c8 = v ∧ X8 = w') ⟨_, _, hr8, rfl, rfl⟩ ?_
          rintro _ _ ⟨rfl, rfl⟩
          have b8 := HBZ.out.turns H8.out.2.1 HK.out.1
          have k2 := b8.cell 2
          have z2 := b8.free 2
          simp only [List.getElem?_cons_zero, List.getElem?_cons_succ] at k2
          refine hK _ _ (.mk' trivial H8.out.2.1) ?_
          clear hK K
          try simp only [sI, sS, sZ]
          refine rkA 9 63 1023 (v := ?_) ?_ (.mk' trivial H8.out.2.1) ?_
          rotate_left
          · intro W hS; go_simp; all_goals with_reducible rfl
          try simp only [sI, sS, sZ]
          refine rkA 10 64 2047 (v := ?_) ?_ (.mk' trivial H8.out.2.1) ?_
          rotate_left
          · intro W hS; go_simp; all_goals with_reducible rfl
          try simp only [sI, sS, sZ]
          refine rkA 11 65 4095 (v := ?_) ?_ (.mk' trivial H8.out.2.1) ?_
          rotate_left
          · intro W hS; go_simp; all_goals with_reducible rfl
          try simp only [sI, sS, sZ]
          refine rk1 12 8191 (fun K hK => ?_)
          go_simp
          refine hK _ _ (.p trivial) ?_
          clear hK K
          try simp only [sI, sS, sZ]
          refine rkZ ?_
          obtain ⟨V, hV⟩ : ∃ x, x = X8.setCell ⟨p, 2, none⟩ (.slice A8 (nb + 1) c8) := ⟨_, rfl⟩
          have bV : Blk V p [.int .i64 L.next, .slice Ao L.opn.length co, .slice A8 (nb + 1) c8, .slice At L.txs.length ct, o1, o2, o3] 101 := by rw [hV]; exact b8.set 2 _
          have tV : Turns [p] X8 V := by rw [hV]; exact (Turns.refl _ _).setCell (.inl (by simp)) _
          have tZV : Turns (p :: (Value.slice Ab nb cb).ownBlock.toList) Z V := (H8.out.2.1.mono (fun x hx => .inl (List.mem_cons_of_mem _ hx))).trans tV (fun x hx => .inl (by simp at hx; subst hx; exact List.mem_cons_self))
          obtain ⟨U, hU⟩ : ∃ x, x = V.drew := ⟨_, rfl⟩
          have tU : Turns [] V U := by rw [hU]; exact (Turns.refl _ _).drew
          have HUU := Lib.hid hU
          have HVV := Lib.hid hV
          have bU := bV.turns tU (by simp)
          have tZU := tZV.trans tU (by simp)
          have hcz := HCZ.out
          have hnx : ∀ x ∈ p :: (Value.slice Ab nb cb).ownBlock.toList, ¬ SX B M [.slice Ab L.blks.length cb, .slice At L.txs.length ct, PV p] x := by
            intro x hx
            rcases List.mem_cons.1 hx with rfl | hx
            · exact SX_not (v := PV x) (by simp) rfl
            · exact SX_not (v := .slice Ab L.blks.length cb) (by simp) (by rw [← HNB.out]; simpa using hx)
          have hop := hcz.opn.keep TxR.lasts (tZU.keepsB _ (fun x hx _ => hnx x hx))
          have htx := hcz.txs.keep TxsR.lasts tZU (fun x hx _ => hnx x hx) (by
            intro x hx
            rcases List.mem_cons.1 hx with rfl | hx
            · exact hcz.tp
            · exact hcz.bt x (by rw [← HNB.out]; simpa using hx))
          have hszU : B ≤ U.heap.size := Nat.le_trans HB.out.1 (Nat.le_trans HTWZ.out.size tZU.size)
          obtain ⟨A12, c12, X12, hr12, dp12, t12, l12⟩ := htx.push TxsR.lasts TTxs (cs := [.slice Ao L.opn.length co]) (x := L.opn) ⟨_, rfl, hop⟩ rfl (by intro u hu; simp at hu; subst hu; rfl) (by
            rintro c y ⟨v, rfl, hd⟩ u hu
            obtain ⟨A, cc, rfl, _⟩ := hd.form
            simp at hu; subst hu; rfl) hszU HL.out.txs (fun j hj => SX_not (v := .slice At L.txs.length ct) (by simp) hj) 27 (by omega)
          rw [show L.opn.length = k from HN.out.symm] at hr12
          have hKp : p ∉ (Value.slice At L.txs.length ct).ownBlock.toList := by intro hm; exact hcz.tp (by simpa using hm)
          have C3 := bU.cell 3
          have C1 := bU.cell 1
          simp only [List.getElem?_cons_zero, List.getElem?_cons_succ] at C3 C1
          rw [← HN.out] at C1
          have HBU := Lib.hid bU
          have HTU := Lib.hid (And.intro tV (And.intro tU tZU))
          have H12 := Lib.hid (And.intro dp12 (And.intro t12 l12))
          have HKB := HK
          clear HK
          have HK := Lib.hid hKp
          have S0 : Turns (Value.slice At L.txs.length ct).ownBlock.toList U U := Turns.refl _ _
          clear hU hV bU bV tV tU tZV tZU hcz hnx hop htx hszU dp12 t12 l12 hKp b8 k2 z2 R5 hr8 C2
          go_upto_region 11 with fail
          rw [← HVV.out]
          refine rk0 (fun _ => True) (fun W => Turns (Value.slice At L.txs.length ct).ownBlock.toList U W) 16 17 ?_
          rw [← HUU.out]
          refine rkA 0 66 1 (v := ?_) ?_ (.mk' trivial S0) ?_
          rotate_left
          · intro W hS; go_simp; all_goals with_reducible rfl
          try simp only [sI, sS, sZ]
          refine rkA 1 67 3 (v := ?_) ?_ (.mk' trivial S0) ?_
          rotate_left
          · intro W hS; go_simp; all_goals with_reducible rfl
          try simp only [sI, sS, sZ]
          refine rkA 2 68 7 (v := ?_) ?_ (.mk' trivial S0) ?_
          rotate_left
          · intro W hS; go_simp; all_goals with_reducible rfl
          try simp only [sI, sS, sZ]
          refine rkA 3 69 15 (v := ?_) ?_ (.mk' trivial S0) ?_
          rotate_left
          · intro W hS; go_simp; all_goals with_reducible rfl
          try simp only [sI, sS, sZ]
          refine rkA 4 70 31 (v := ?_) ?_ (.mk' trivial S0) ?_
          rotate_left
          · intro W hS; go_simp; all_goals with_reducible rfl
          try simp only [sI, sS, sZ]
          refine rkT 5 71 63 (v := ?_) ?_ (.mk' trivial S0) ?_
          rotate_left
          · rintro W ⟨-, hS⟩; have c0 := cellL hS C3 HK.out; go_simp; all_goals with_reducible rfl
          try simp only [sI, sS, sZ]
          refine rkA 6 72 127 (v := ?_) ?_ (.mk' trivial S0) ?_
          rotate_left
          · intro W hS; go_simp; all_goals with_reducible rfl
          try simp only [sI, sS, sZ]
          refine rkA 7 73 255 (v := ?_) ?_ (.mk' trivial S0) ?_
          rotate_left
          · intro W hS; go_simp; all_goals with_reducible rfl
          try simp only [sI, sS, sZ]
          refine rkA 8 74 511 (v := ?_) ?_ (.mk' trivial S0) ?_
          rotate_left
          · intro W hS; go_simp; all_goals with_reducible rfl
          try simp only [sI, sS, sZ]
          refine rkA 9 75 1023 (v := ?_) ?_ (.mk' trivial S0) ?_
          rotate_left
          · intro W hS; go_simp; all_goals with_reducible rfl
          try simp only [sI, sS, sZ]
          refine rkT 10 76 2047 (v := ?_) ?_ (.mk' trivial S0) ?_
          rotate_left
          · rintro W ⟨-, hS⟩; have c0 := cellL hS C1 HK.out; go_simp; all_goals with_reducible rfl
          try simp only [sI, sS, sZ]
          refine rk1 11 4095 (fun K hK => ?_)
          go_simp
          refine hK _ _ (.mk' trivial ((Turns.refl _ _).alloc _)) ?_
          clear hK K
          try simp only [sI, sS, sZ]
          refine rk1 12 8191 (fun K hK => ?_)
          refine wp_append_run (P := Tryz.prog) (w := U.alloc (.cells #[.slice Ao k co] 25)) (.tmp 71) (.tmp 77) (by rfl) (vs := _) (vx := _) (by rfl) (by rfl) (R := fun v w' => Value.slice A12 (L.txs.length + 1) c12 = v ∧ X12 = w') ⟨_, _, hr12, rfl, rfl⟩ ?_
          rintro _ _ ⟨rfl, rfl⟩
          have b12 := HBU.out.turns H12.out.2.1 HK.out
          have k3 := b12.cell 3
          have z3 := b12.free 3
          simp only [List.getElem?_cons_zero, List.getElem?_cons_succ] at k3
          refine hK _ _ (.mk' trivial H12.out.2.1) ?_
          clear hK K
          try simp only [sI, sS, sZ]
          refine rkA 13 79 16383 (v := ?_) ?_ (.mk' trivial H12.out.2.1) ?_
          rotate_left
          · intro W hS; go_simp; all_goals with_reducible rfl
          try simp only [sI, sS, sZ]
          refine rkA 14 80 32767 (v := ?_) ?_ (.mk' trivial H12.out.2.1) ?_
          rotate_left
          · intro W hS; go_simp; all_goals with_reducible rfl
          try simp only [sI, sS, sZ]
          refine rkA 15 81 65535 (v := ?_) ?_ (.mk' trivial H12.out.2.1) ?_
          rotate_left
          · intro W hS; go_simp; all_goals with_reducible rfl
          try simp only [sI, sS, sZ]
          refine rk1 16 131071 (fun K hK => ?_)
          go_simp
          refine hK _ _ (.p trivial) ?_
          clear hK K
          try simp only [sI, sS, sZ]
          refine rkZ ?_
          obtain ⟨F3, hF3⟩ : ∃ x, x = X12.setCell ⟨p, 3, none⟩ (.slice A12 (L.txs.length + 1) c12) := ⟨_, rfl⟩
          have b13 : Blk F3 p [.int .i64 L.next, .slice Ao L.opn.length co, .slice A8 (nb + 1) c8, .slice A12 (L.txs.length + 1) c12, o1, o2, o3] 101 := by rw [hF3]; exact b12.set 3 _
          have k1 := b13.cell 1
          have z1 := b13.free 1
          simp only [List.getElem?_cons_zero, List.getElem?_cons_succ] at k1
          rw [← HN.out] at k1
          have b14 := b13.set 1 (.slice none 0 0)
          have tF : Turns [p] X12 (F3.setCell ⟨p, 1, none⟩ (.slice none 0 0)) := by rw [hF3]; exact ((Turns.refl _ _).setCell (.inl (by simp)) _).setCell (.inl (by simp)) _
          rw [← hF3]
          have HFF := Lib.hid (And.intro b14 tF)
          clear hF3 b13 b12 b14 tF k3 z3 hr12 C1 C3
          go_wp2_with fail
          go_end0
          have hcz := HCZ.out
          have hlz := HBZ.out.lt
          have hsU : Z.heap.size ≤ U.heap.size := HTU.out.2.2.size
          have hb8 : ∀ x, (Value.slice A8 (nb + 1) c8).ownBlock = some x → x ≠ p := by
            intro x hx e
            rcases H8.out.2.2 x hx with h | h
            · rw [HNB.out] at h; exact hcz.bp (by rw [h, e])
            · omega
          have o9 := own_vL (own_v0 (own_vL H8.out.1 HTU.out.1 (by intro x hx e; simp at hx; exact hb8 x e hx)) HTU.out.2.1) H12.out.2.1 (by
            intro x hx e
            have hx' : (Value.slice At L.txs.length ct).ownBlock = some x := by simpa using hx
            rcases H8.out.2.2 x e with h | h
            · rw [HNB.out] at h; exact hcz.bt x h hx'
            · have := (hcz.txs.lt x hx').2; omega)
          have o10 := own_vL o9 HFF.out.2 (by intro x hx e; simp at hx; exact hb8 x e hx)
          have hd := H12.out.1 (fun b => B ≤ b ∧ b ≠ p) (fun j _ hj => ⟨hj.1, fun e => hj.2.2 (PV p) (by simp) (by rw [e]; rfl)⟩) (fun j hj => ⟨(H12.out.2.2 j hj).2.1, fun e => by
            rcases (H12.out.2.2 j hj).1 with h | h
            · exact hcz.tp (by rw [h, e])
            · omega⟩)
          refine ⟨rfl, _, _, HFF.out.1, ⟨Deep.nil, ?_, ?_⟩, ?_⟩
          · have e1 : (closeL L).blks.length = nb + 1 := by simp [closeL, HNB.out]
            have e2 : bloCells (closeL L).blks = bloCells L.blks ++ cs := by rw [HCS.out]; simp [closeL, bloCells]
            rw [e1, e2]
            exact SlS.of_own o10 (fun j hj => ⟨(o10.lt j hj).1, hb8 j hj⟩)
          · exact hd.keep TxsR.lasts (HFF.out.2.keepsB _ (by intro x hx _ h; simp at hx; exact h.2 hx))
          · rw [← HNB.out]
            have q1 : Turns (p :: ((Value.slice Ab nb cb).ownBlock.toList ++ (Value.slice At L.txs.length ct).ownBlock.toList)) w U := (HTWZ.out.mono (by simp)).trans HTU.out.2.2 (fun x hx => .inl (by
              rcases List.mem_cons.1 hx with rfl | hx
              · exact List.mem_cons_self
              · exact List.mem_cons_of_mem _ (List.mem_append_left _ hx)))
            have q2 := q1.trans H12.out.2.1 (fun x hx => .inl (List.mem_cons_of_mem _ (List.mem_append_right _ hx)))
            exact q2.trans HFF.out.2 (fun x hx => .inl (by simp at hx; subst hx; exact List.mem_cons_self))
end Go.Proofs.YtoahnhphfabajaaGreat
