/- The document's ledger as the program's, walked. -/
import Derived.Test.YtoahnhphfabajaaGreatLdZ
namespace Go.Proofs.YtoahnhphfabajaaGreat
open Go.RowKit
set_option linter.unusedVariables false
set_option maxRecDepth 10000
set_option linter.unusedSimpArgs false
set_option linter.unnecessarySimpa false

set_option maxRecDepth 100000 in
theorem built_blo4 (b : Blo) (h : b.ok) : Tryz.prog.built 70 [(0, .int .i64 b.n), (1, .agg (bvs b.prev).toArray), (2, .agg (bvs b.root).toArray), (3, .int .i64 b.cnt)] = some b.cells.toArray := by
  obtain ⟨n, p, r, c⟩ := b
  obtain ⟨h1, h2⟩ := h
  simp only at h1 h2
  match p, h1, r, h2 with
  | [a0, a1, a2, a3, a4, a5, a6, a7, a8, a9, a10, a11, a12, a13, a14, a15, a16, a17, a18, a19, a20, a21, a22, a23, a24, a25, a26, a27, a28, a29, a30, a31], _, [b0, b1, b2, b3, b4, b5, b6, b7, b8, b9, b10, b11, b12, b13, b14, b15, b16, b17, b18, b19, b20, b21, b22, b23, b24, b25, b26, b27, b28, b29, b30, b31], _ => show _ = _; kernel_rfl
set_option maxRecDepth 100000 in
set_option maxHeartbeats 8000000 in
theorem Of_any (L : Led) (hL : L.ok) (ov bv tv : Value) (S : Nat → Prop) (w0 : World) (hd : LedR w0 S ov bv tv L) :
    Calls Tryz.prog 20 #[.agg #[.int .i64 L.next, ov, bv, tv]] w0 fun e w' => ∃ bv', e = .returned (.agg #[.int .i64 L.next, ov, bv', tv]) ∧ LedR w' (fun _ => True) ov bv' tv L ∧ Turns [] w0 w' := by
  have hne : True := trivial
  obtain ⟨Ao, co, rfl, _⟩ := hd.opn.form
  obtain ⟨Ab, cb, rfl, _⟩ := hd.blks.form'
  obtain ⟨At, ct, rfl, _⟩ := hd.txs.form
  obtain ⟨nb, hnb⟩ : ∃ n, n = L.blks.length := ⟨_, rfl⟩
  obtain ⟨nO, hnO⟩ : ∃ n, n = L.opn.length := ⟨_, rfl⟩
  obtain ⟨nT, hnT⟩ : ∃ n, n = L.txs.length := ⟨_, rfl⟩
  have hb1 : nb ≤ 100000 := by rw [hnb]; exact hL.blks
  have hb2 : nO ≤ 1000 := by rw [hnO]; exact hL.opn
  have hb3 : nT ≤ 100000 := by rw [hnT]; exact hL.txs
  have HNN := Lib.hid (And.intro hnb (And.intro hnO hnT))
  have HD := Lib.hid (And.intro hd trivial)
  rw [← hnb, ← hnO, ← hnT]
  obtain ⟨p, hp⟩ : ∃ p, p = w0.heap.size := ⟨_, rfl⟩
  obtain ⟨w, hw⟩ : ∃ x, x = w0.alloc (.cells #[.int .i64 L.next, .slice Ao nO co, .slice Ab nb cb, .slice At nT ct] 32) := ⟨_, rfl⟩
  have bc := Blk.new w0 [.int .i64 L.next, .slice Ao nO co, .slice Ab nb cb, .slice At nT ct] 32
  have t0 := (Turns.refl [] w0).alloc (.cells #[.int .i64 L.next, .slice Ao nO co, .slice Ab nb cb, .slice At nT ct] 32)
  have hs0 : w.heap.size = w0.heap.size + 1 := by rw [hw]; simp
  rw [show w0.alloc (.cells [.int .i64 L.next, .slice Ao nO co, .slice Ab nb cb, .slice At nT ct].toArray 32) = w from hw.symm, ← hp] at bc
  rw [← hw] at t0
  obtain ⟨q, hq⟩ : ∃ p, p = w.heap.size := ⟨_, rfl⟩
  obtain ⟨w1, hw1⟩ : ∃ x, x = w.alloc (.cells #[.int .i64 0, .slice none 0 0, .slice none 0 0, .slice none 0 0] 29) := ⟨_, rfl⟩
  have bq := Blk.new w [.int .i64 0, .slice none 0 0, .slice none 0 0, .slice none 0 0] 29
  have t1 := (Turns.refl [] w).alloc (.cells #[.int .i64 0, .slice none 0 0, .slice none 0 0, .slice none 0 0] 29)
  have hs1 : w1.heap.size = w.heap.size + 1 := by rw [hw1]; simp
  rw [show w.alloc (.cells [.int .i64 0, .slice none 0 0, .slice none 0 0, .slice none 0 0].toArray 29) = w1 from hw1.symm, ← hq] at bq
  rw [← hw1] at t1
  have bp1 := bc.turns t1 (by simp)
  have c1 := bp1.cell 1
  have c2 := bp1.cell 2
  simp only [List.getElem?_cons_zero, List.getElem?_cons_succ] at c1 c2
  have HPB := Lib.hid bp1
  have HT0 := Lib.hid (t0.trans t1 (by simp))
  have HW := Lib.hid (And.intro hw hw1)
  have HP := Lib.hid (And.intro hp (show p + 1 = q by omega))
  have HQB := Lib.hid (And.intro bq (show w0.heap.size ≤ q ∧ q < w1.heap.size ∧ w0.heap.size ≤ p ∧ p < q by omega))
  have HL := Lib.hid hL
  clear bc t0 hw hw1 hp hq hs0 hs1 hd bq t1 bp1 hL hnb hnO hnT
  obtain ⟨p3, hp3⟩ : ∃ x, x = w1.heap.size := ⟨_, rfl⟩
  obtain ⟨x3, hx3⟩ : ∃ x, x = w1.alloc (.cells #[.int .i64 L.next, .slice Ao nO co, .slice none 0 0, .slice At nT ct] 29) := ⟨_, rfl⟩
  have b3 := Blk.new w1 [.int .i64 L.next, .slice Ao nO co, .slice none 0 0, .slice At nT ct] 29
  rw [show w1.alloc (.cells [.int .i64 L.next, .slice Ao nO co, .slice none 0 0, .slice At nT ct].toArray 29) = x3 from hx3.symm, ← hp3] at b3
  have t3 : Turns [] w1 x3 := by rw [hx3]; exact (Turns.refl _ _).alloc _
  have c0 := HPB.out.cell 0
  have c3 := HPB.out.cell 3
  simp only [List.getElem?_cons_zero, List.getElem?_cons_succ] at c0 c3
  have H3 := Lib.hid (And.intro b3 t3)
  have HX3 := Lib.hid (And.intro hx3 hp3)
  have o0 : x3.ownsRow w1.heap.size 70 66 (.slice none 0 0) 0 (bloCells (L.blks.take 0)) := World.ownsRow_nil _ _ _ _
  have HO0 := Lib.hid o0
  have hps := HX3.out.2
  clear hne b3 t3 hx3 hp3 o0 hps
  go_enter Tryz.func20, Tryz.ntmps20
  go_upto_region 1 with fail
  rw [← HW.out.1, ← HW.out.2, ← HP.out.1, HP.out.2]
  go_upto_region 2 with fail
  rw [← HX3.out.1, ← HX3.out.2]
  clear c0 c1 c2 c3
  go_wp2_with fail
  go_loopw [4, 5] (fun i y wr => ∃ (k : Nat) (A' : Option Addr) (c' : Nat), k ≤ nb ∧ i = .int .i64 k ∧ Blk wr p3 [.int .i64 L.next, .slice Ao nO co, .slice A' k c', .slice At nT ct] 29 ∧ wr.ownsRow w1.heap.size 70 66 (.slice A' k c') k (bloCells (L.blks.take k)) ∧ (Value.slice A' k c').ownBlock ≠ some p3 ∧ Turns [] w1 wr) (fun i _ _ => nb - (intOf i).toNat)
  case atStart => exact ⟨0, none, 0, by omega, rfl, H3.out.1, HO0.out, by simp [Value.ownBlock], H3.out.2⟩
  case round =>
    obtain ⟨k, Au, cu, hk, rfl, bk, ou, hne, tr⟩ := hrel
    have bp := HPB.out.turns tr (by simp)
    have c2 := bp.cell 2
    simp only [List.getElem?_cons_zero, List.getElem?_cons_succ] at c2
    by_cases hlt : k < nb
    · have hki : (k : Int) < (nb : Int) := by omega
      have hkl : k < L.blks.length := by have := HNN.out.1; omega
      have tw : Turns [] w0 wr := HT0.out.trans tr (by simp)
      obtain ⟨b0, off, cc, hv, _, hb0, rg0⟩ := blo_at HD.out.1.blks HL.out.blo k hkl
      have rg := rangeV tw rg0
      injection hv with e1 e2 e3
      subst e1 e3
      clear e2
      have hck := HL.out.blo _ (List.getElem_mem hkl)
      have hst : bloCells (L.blks.take (k + 1)) = bloCells (L.blks.take k) ++ (L.blks[k]).cells := by
        rw [List.take_succ_eq_append_getElem hkl, bloCells_app]; simp [bloCells]
      obtain ⟨b, hb⟩ : ∃ b, b = L.blks[k] := ⟨_, rfl⟩
      rw [← hb] at rg hck hst
      obtain ⟨cs, hcs⟩ : ∃ c, c = b.cells := ⟨_, rfl⟩
      have hcl : cs.length = 66 := by rw [hcs]; exact Blo.cells_len hck
      have hc1 : ∀ u ∈ cs, u.oneCell' = true := by rw [hcs]; exact Blo.cells_one _
      rw [← hcs] at rg hst
      have hz1 := size_rblo cs hcl
      have b5 := Blk.new wr blo0.cells 75
      have t5 : Turns [] wr (wr.alloc (.cells blo0.cells.toArray 75)) := (Turns.refl _ _).alloc _
      have HB5 := Lib.hid (And.intro b5 (And.intro t5 (And.intro (show blo0.cells.length = cs.length by rw [hcl, Blo.cells_len blo0_ok]) hc1)))
      have HK := Lib.hid (And.intro bk (And.intro ou (And.intro hne tr)))
      have HCS := Lib.hid (And.intro hcs (And.intro hcl (And.intro hck hst)))
      have hzr := zero_rblo
      clear b5 t5 bk ou hne tr bp hb hcs hcl hc1 hck hst hb0 hkl tw rg0
      go_upto_region 6 with (first
        | (refine wpList_load_mid rfl 75 (.tmp 23) rfl b0 (off + k * 66) rfl cs _ rg Tryz.underlying75 rfl hz1 ?_)
        | (refine wpList_alloc_arr (o := ⟨some 5, _, _, _, _, _⟩) rfl 75 rfl blo0.cells.toArray hzr ?_)
        | (refine wpList_store_blk rfl 75 (.tmp 5) (.tmp 24) rfl wr.heap.size (by kernel_rfl) cs blo0.cells 75 (by kernel_rfl) HB5.out.1 HB5.out.2.2.1 hz1 HB5.out.2.2.2 (fun y1 hb1 ht1 hs1 => ?_); have HQ := Lib.hid (And.intro hb1 ht1); clear hb1 ht1 hs1)
        | fail)
      try simp only [Act.put, List.setIfInBounds_toArray, List.set_cons_succ, List.set_cons_zero]
      obtain ⟨p5, hp5⟩ : ∃ x, x = wr.heap.size := ⟨_, rfl⟩
      rw [← hp5] at HQ ⊢
      have ty : Turns [] wr y1 := HB5.out.2.1.trans HQ.out.2 (by intro x hx; simp at hx; exact .inr (by omega))
      have b3y := HK.out.1.turns ty (by simp)
      have k2 := b3y.cell 2
      simp only [List.getElem?_cons_zero, List.getElem?_cons_succ] at k2
      have d0 := (HQ.out.1.cell 0).trans (show cs[0]? = some (.int .i64 b.n) from HCS.out.1 ▸ b.get0)
      have d65 := (HQ.out.1.cell 65).trans (show cs[65]? = some (.int .i64 b.cnt) from HCS.out.1 ▸ Blo.get65 HCS.out.2.2.1)
      have RP : y1.rangeAt p5 1 (bvs b.prev) := fun j v hv => (HQ.out.1.cell (1 + j)).trans (HCS.out.1 ▸ b.getP HCS.out.2.2.1 j v hv)
      have RR : y1.rangeAt p5 33 (bvs b.root) := fun j v hv => (HQ.out.1.cell (33 + j)).trans (HCS.out.1 ▸ b.getR HCS.out.2.2.1 j v hv)
      have hsp : (Tryz.prog.info? 53).map (·.size) = some (bvs b.prev).length := by rw [bvs_length, HCS.out.2.2.1.prev]; exact size_hash
      have hsr : (Tryz.prog.info? 53).map (·.size) = some (bvs b.root).length := by rw [bvs_length, HCS.out.2.2.1.root]; exact size_hash
      have hbd := built_blo4 b HCS.out.2.2.1
      rw [← HCS.out.1] at hbd
      have HBD := Lib.hid hbd
      obtain ⟨A9, c9, x9, hr9, o9, t9, l9⟩ := own_push TBlo (own_v0 HK.out.2.1 ty) HCS.out.2.1 HB5.out.2.2.2 (Nat.le_trans HK.out.2.2.2.size ty.size) (by omega) (by omega) 26
      rw [← HCS.out.2.2.2] at o9
      have h3n : p3 ∉ (Value.slice Au k cu).ownBlock.toList := fun hm => HK.out.2.2.1 (by simpa using hm)
      have b39 := b3y.turns t9 h3n
      have k9 := b39.cell 2
      have z9 := b39.free 2
      simp only [List.getElem?_cons_zero, List.getElem?_cons_succ] at k9
      obtain ⟨x10, hx10⟩ : ∃ x, x = x9.setCell ⟨p3, 2, none⟩ (.slice A9 (k + 1) c9) := ⟨_, rfl⟩
      have t10 : Turns [p3] x9 x10 := by rw [hx10]; exact (Turns.refl _ _).setCell (.inl (by simp)) _
      have hl3 := HK.out.1.lt
      have hn9 : (Value.slice A9 (k + 1) c9).ownBlock ≠ some p3 := by
        intro e
        rcases l9 p3 e with h | h
        · exact HK.out.2.2.1 h
        · have := ty.size; omega
      have b310 : Blk x10 p3 [.int .i64 L.next, .slice Ao nO co, .slice A9 (k + 1) c9, .slice At nT ct] 29 := by rw [hx10]; exact b39.set 2 _
      have o10 := own_vL o9 t10 (by intro x hx e; simp at hx; exact hn9 (by rw [e, hx]))
      have t110 : Turns [] w1 x10 := ((HK.out.2.2.2.trans ty (by simp)).trans t9 (fun x hx => .inr (HK.out.2.1.lt x (by simpa using hx)).1)).trans t10 (by intro x hx; simp at hx; exact .inr (by have := HX3.out.2; omega))
      have HFIN := Lib.hid (And.intro b310 (And.intro o10 (And.intro hn9 t110)))
      have HX10 := Lib.hid hx10
      clear ty b3y hbd o9 t9 l9 h3n b39 hx10 t10 hl3 hn9 b310 o10 t110 hp5 rg c2
      go_wp2_with (first
        | (refine wpList_load_mid rfl 53 (.tmp 29) rfl p5 1 (by kernel_rfl) (bvs b.prev) _ RP Tryz.underlying53 rfl hsp ?_)
        | (refine wpList_load_mid rfl 53 (.tmp 31) rfl p5 33 (by kernel_rfl) (bvs b.root) _ RR Tryz.underlying53 rfl hsr ?_)
        | (refine wpList_buildTo rfl 70 _ rfl (some 35) rfl cs.toArray (by have h := HBD.out; simpa [Act.eval] using h) ?_)
        | (refine wpList_build_one rfl TBlo (by omega) (by omega) cs HCS.out.2.1 (.tmp 35) rfl (by rfl) ?_)
        | (at_builtin; refine wpList_append_at rfl (.tmp 26) (.tmp 36) rfl hr9 rfl rfl ?_)
        | fail)
      go_roundw
      case rel => exact ⟨k + 1, A9, c9, by omega, by go_num, by rw [← HX10.out]; exact HFIN.out.1, by rw [← HX10.out]; exact HFIN.out.2.1, HFIN.out.2.2.1, by rw [← HX10.out]; exact HFIN.out.2.2.2⟩
      case measure => (simp [intOf] <;> omega)
    · obtain rfl : k = nb := by omega
      rw [List.take_of_length_le (by have := HNN.out.1; omega)] at ou
      have r3 := bk.all
      have hz3 := size_led (.int .i64 L.next) (.slice Ao nO co) (.slice Au k cu) (.slice At nT ct)
      have HBQ := Lib.hid (HQB.out.1.turns tr (by simp))
      have HF := Lib.hid (And.intro ou (HT0.out.trans tr (by simp)))
      clear ou tr bk bp
      go_wp2_with (first
        | (refine wpList_load_mid rfl 29 (.tmp 3) rfl p3 0 rfl _ _ r3 Tryz.underlying29 rfl hz3 ?_)
        | (refine wpList_store_blk rfl 29 (.tmp 2) (.tmp 39) rfl q (by kernel_rfl) [.int .i64 L.next, .slice Ao nO co, .slice Au k cu, .slice At nT ct] _ 29 (by kernel_rfl) HBQ.out rfl hz3 (by intro u hu; simp at hu; rcases hu with rfl | rfl | rfl | rfl <;> rfl) (fun w9 hb9 ht9 hs9 => ?_); have HQ9 := Lib.hid (And.intro hb9 ht9); clear hb9 ht9 hs9)
        | fail)
      refine bodyPost_ret (results_cell_row rfl _ _ q _ _ _ _ (by kernel_rfl) HQ9.out.1 Tryz.underlying29 rfl (by rw [List.size_toArray]; exact hz3)) rfl ?_
      have hq := HQB.out.2
      have t09 : Turns [] w0 w9 := HF.out.2.trans HQ9.out.2 (by intro x hx; simp at hx; exact .inr (by omega))
      refine ⟨_, rfl, ?_, t09⟩
      have o9 := own_vL HF.out.1 HQ9.out.2 (by intro x hx e; simp at hx; have := (HF.out.1.lt x e).1; omega)
      have hl := (HD.out.1.keep (t09.keeps0 S)).mono (S' := fun _ => True) (fun _ _ _ => trivial)
      have e1 := HNN.out.1
      have e2 := HNN.out.2.1
      have e3 := HNN.out.2.2
      rw [e1] at o9
      rw [e2, e3, e1]
      exact ⟨hl.opn, SlS.of_own o9 (fun _ _ => trivial), hl.txs⟩
end Go.Proofs.YtoahnhphfabajaaGreat
