/- The document's receipts, made. -/
import Derived.Test.YtoahnhphfabajaaGreatGu1
namespace Go.Proofs.YtoahnhphfabajaaGreat
open Go.RowKit
set_option linter.unusedVariables false
set_option maxRecDepth 10000
set_option linter.unusedSimpArgs false
set_option linter.unnecessarySimpa false

/-- Where the search has come to, and nothing was found. -/
def NegP (L : Led) (tx seq : Int) (i k : Nat) : Prop := ∀ (a b : Nat) (xs : List Txn) (t : Txn), L.txs[a]? = some xs → xs[b]? = some t → (a < i ∨ (a = i ∧ b < k)) → t.id ≠ tx ∨ seq < 0 ∨ ((t.chs.length : Nat) : Int) ≤ seq
theorem NegP.zero (L : Led) (tx seq : Int) : NegP L tx seq 0 0 := fun a b xs t _ _ h => by omega
theorem NegP.step {L : Led} {tx seq : Int} {i k : Nat} (h : NegP L tx seq i k) {xs : List Txn} {t : Txn} (h1 : L.txs[i]? = some xs) (h2 : xs[k]? = some t) (hb : t.id ≠ tx ∨ seq < 0 ∨ ((t.chs.length : Nat) : Int) ≤ seq) : NegP L tx seq i (k + 1) := fun a b ys u g1 g2 hab => by
  by_cases hn : a < i ∨ (a = i ∧ b < k)
  · exact h a b ys u g1 g2 hn
  · obtain ⟨rfl, rfl⟩ : a = i ∧ b = k := by omega
    rw [h1] at g1
    injection g1 with g1
    subst g1
    rw [h2] at g2
    injection g2 with g2
    subst g2
    exact hb
theorem NegP.next {L : Led} {tx seq : Int} {i : Nat} {xs : List Txn} (h1 : L.txs[i]? = some xs) (h : NegP L tx seq i xs.length) : NegP L tx seq (i + 1) 0 := fun a b ys u g1 g2 hab => by
  refine h a b ys u g1 g2 ?_
  by_cases ha : a = i
  · subst ha
    rw [h1] at g1
    injection g1 with g1
    subst g1
    exact .inr ⟨rfl, (List.getElem?_eq_some_iff.1 g2).1⟩
  · omega
theorem NegP.none {L : Led} {tx seq : Int} {i : Nat} (h : NegP L tx seq i 0) (hi : i = L.txs.length) : MkP L tx seq rec0 2 := by
  refine .inr ⟨rfl, rfl, ?_⟩
  by_cases hs : seq < 0
  · exact .inr (.inl hs)
  · by_cases he : ∃ (a b : Nat) (xs : List Txn) (t : Txn), L.txs[a]? = some xs ∧ xs[b]? = some t ∧ t.id = tx ∧ ((t.chs.length : Nat) : Int) ≤ seq
    · exact .inr (.inr he)
    · refine .inl fun a b xs t g1 g2 e => ?_
      rcases h a b xs t g1 g2 (.inl (by have := (List.getElem?_eq_some_iff.1 g1).1; omega)) with h | h | h
      · exact h e
      · exact hs h
      · exact he ⟨a, b, xs, t, g1, g2, e, h⟩
set_option maxRecDepth 100000 in
theorem built_rrec6 (r : Rec) (h : r.blk.ok) (rv : Value) : Tryz.prog.built 77 [(0, .int .i64 r.tx), (1, .int .i64 r.seq), (2, .int .i64 r.chgs), (3, .agg #[.string r.c.table, .int .i64 r.c.op, rv]), (5, .int .i64 r.place), (7, .agg r.blk.cells.toArray)] = some (recCells r rv (.slice none 0 0) (.slice none 0 0)).toArray := by
  obtain ⟨tx, seq, chgs, c, rows, place, ents, ⟨n, pv, rt, cn⟩⟩ := r
  match pv, h.prev, rt, h.root with
  | [a0, a1, a2, a3, a4, a5, a6, a7, a8, a9, a10, a11, a12, a13, a14, a15, a16, a17, a18, a19, a20, a21, a22, a23, a24, a25, a26, a27, a28, a29, a30, a31], _, [b0, b1, b2, b3, b4, b5, b6, b7, b8, b9, b10, b11, b12, b13, b14, b15, b16, b17, b18, b19, b20, b21, b22, b23, b24, b25, b26, b27, b28, b29, b30, b31], _ => show _ = _; kernel_rfl
/-- A receipt whose row lies in blocks that S allows, whose proofs lie behind lo. -/
structure RecQ (lo : Nat) (S : Nat → Prop) (w : World) (r : Rec) (rv hv ev : Value) : Prop where
  row : SlS w S 3 rv r.c.row.length (valCells r.c.row)
  rows : Hs w w.heap.size hv r.rows
  ents : Hs w w.heap.size ev r.ents
  lo : ∀ v ∈ [hv, ev], ∀ k, v.ownBlock = some k → lo ≤ k
theorem RecQ.rd {lo : Nat} {S : Nat → Prop} {w : World} {r : Rec} {rv hv ev : Value} (h : RecQ lo S w r rv hv ev) : RecR w r rv hv ev := ⟨h.row.sl, h.rows, h.ents⟩
theorem RecQ.store {lo g : Nat} {S : Nat → Prop} {w w' : World} {r : Rec} {rv hv ev : Value} (h : RecQ lo S w r rv hv ev) (t : Turns [g] w w') (hS : ¬ S g) (hg : g < lo ∨ w.heap.size ≤ g) : RecR w' r rv hv ev := by
  have h1 := (h.row.keep (t.keepsB S (fun k hk _ => by simp at hk; rw [hk]; exact hS))).sl
  rcases hg with hg | hg
  · have hn : ∀ v ∈ [hv, ev], ∀ x ∈ [g], v.ownBlock ≠ some x := fun v hv x hx e => by simp at hx; have := h.lo v hv x e; omega
    exact ⟨h1, (h.rows.turns t (Nat.le_refl _) (hn hv (by simp))).more t.size, (h.ents.turns t (Nat.le_refl _) (hn ev (by simp))).more t.size⟩
  · have t0 : Turns [] w w' := (Turns.refl [] w).trans t (by intro x hx; simp at hx; exact .inr (by omega))
    exact ⟨h1, (h.rows.turns t0 (Nat.le_refl _) (by simp)).more t.size, (h.ents.turns t0 (Nat.le_refl _) (by simp)).more t.size⟩
set_option maxRecDepth 100000 in
set_option maxHeartbeats 16000000 in
theorem RMake_any (L : Led) (hL : L.ok) (hbt : L.blks.length = L.txs.length) (tx seq : Int) (ov bv tv : Value) (S : Nat → Prop) (w0 : World) (hd : LedR w0 S ov bv tv L) :
    Calls Tryz.prog 25 #[.agg #[.int .i64 L.next, ov, bv, tv], .int .i64 tx, .int .i64 seq] w0 fun e w' => ∃ r rv hv ev er, e = .returned (.tuple #[.agg (recCells r rv hv ev).toArray, .int .i64 er]) ∧ RecQ w0.heap.size S w' r rv hv ev ∧ MkP L tx seq r er ∧ Turns [] w0 w' := by
  obtain ⟨Ao, co, rfl, _⟩ := hd.opn.form
  obtain ⟨Ab, cb, rfl, _⟩ := hd.blks.form'
  obtain ⟨At, ct, rfl, _⟩ := hd.txs.form
  obtain ⟨nO, hnO⟩ : ∃ n, n = L.opn.length := ⟨_, rfl⟩
  obtain ⟨nb, hnb⟩ : ∃ n, n = L.blks.length := ⟨_, rfl⟩
  obtain ⟨nT, hnT⟩ : ∃ n, n = L.txs.length := ⟨_, rfl⟩
  have hT9 : nT ≤ 100000 := by rw [hnT]; exact hL.txs
  rw [← hnO, ← hnb, ← hnT]
  have hdx := hd.mono (S' := fun b => S b ∧ b < w0.heap.size) (fun j hj h => ⟨h, hj⟩)
  obtain ⟨zz, hzz⟩ : ∃ z, z = rz := ⟨_, rfl⟩
  have hz2 := zero_rrec
  have hb81 := built_rrec0
  have hzl : zz.length = 75 := by rw [hzz]; exact rz_len
  rw [← hzz] at hz2 hb81
  obtain ⟨p3, hp3⟩ : ∃ q, q = w0.heap.size := ⟨_, rfl⟩
  obtain ⟨x1, hx1⟩ : ∃ x, x = w0.alloc (.cells #[.int .i64 L.next, .slice Ao nO co, .slice Ab nb cb, .slice At nT ct] 32) := ⟨_, rfl⟩
  obtain ⟨x2, hx2⟩ : ∃ x, x = x1.alloc (.cells zz.toArray 77) := ⟨_, rfl⟩
  have b3 := Blk.new w0 [.int .i64 L.next, .slice Ao nO co, .slice Ab nb cb, .slice At nT ct] 32
  rw [show w0.alloc (.cells [.int .i64 L.next, .slice Ao nO co, .slice Ab nb cb, .slice At nT ct].toArray 32) = x1 from hx1.symm, ← hp3] at b3
  obtain ⟨p6, hp6⟩ : ∃ q, q = p3 + 1 := ⟨_, rfl⟩
  have hs1 : p6 = x1.heap.size := by rw [hp6, hx1, hp3]; simp
  have b6 := Blk.new x1 zz 77
  rw [← hx2, ← hs1] at b6
  have t1 : Turns [] w0 x1 := by rw [hx1]; exact (Turns.refl _ _).alloc _
  have t2 : Turns [] x1 x2 := by rw [hx2]; exact (Turns.refl _ _).alloc _
  have b32 := b3.turns t2 (by simp)
  have c2 := b32.cell 2
  have c3 := b32.cell 3
  simp only [List.getElem?_cons_zero, List.getElem?_cons_succ] at c2 c3
  have HB6 := Lib.hid b6
  have HT0 := Lib.hid (And.intro (t1.trans t2 (by simp)) (show w0.heap.size ≤ p6 ∧ p6 < x2.heap.size by have := b6.lt; omega))
  have HX := Lib.hid (And.intro hx1 (And.intro hx2 (And.intro hp3 hp6)))
  have HD := Lib.hid (And.intro (hdx.keep ((t1.trans t2 (by simp)).keeps0 _)) (And.intro hL (And.intro hbt (And.intro hnb hnT))))
  have HZ := Lib.hid (And.intro (show zz = rz from hzz) hzl)
  clear hd hdx hL hbt hnb hnT hnO hx1 hx2 hp3 hp6 hs1 b3 b6 t1 t2 b32 hzz hzl
  go_enter Tryz.func25, Tryz.ntmps25
  go_upto_region 1 with (first | (refine wpList_alloc_arr (o := ⟨some 6, _, _, _, _, _⟩) rfl 77 rfl zz.toArray hz2 ?_) | fail)
  try simp only [Act.put, List.setIfInBounds_toArray, List.set_cons_succ, List.set_cons_zero]
  rw [← HX.out.1, ← HX.out.2.1, ← HX.out.2.2.1, ← HX.out.2.2.2]
  go_wp2_with fail
  go_loopw [8] (fun u wr => ∃ i : Nat, i ≤ nT ∧ u = .int .i64 i ∧ NegP L tx seq i 0 ∧ Turns [] x2 wr) (fun u _ => nT - (intOf u).toNat)
  case atStart => exact ⟨0, by omega, rfl, NegP.zero _ _ _, Turns.refl _ _⟩
  case round =>
    rename World => wr
    obtain ⟨i, hi, rfl, hneg, tr⟩ := hrel
    have q3 := cellV tr c3
    by_cases hlt : i < nT
    · have hii : (i : Int) < (nT : Int) := by omega
      have hil : i < L.txs.length := by have := HD.out.2.2.2.2; omega
      obtain ⟨bT, offT, cT, csT, hv, _, _, _, rg, hR⟩ := (HD.out.1.txs.keep TxsR.lasts (tr.keeps0 _)).at_ (by omega) i hil
      injection hv with e1 e2 e3
      subst e1 e3
      clear e2
      have hxo := HD.out.2.1.tt _ (List.getElem_mem hil)
      have hxl := HD.out.2.1.tl _ (List.getElem_mem hil)
      have hxa : L.txs[i]? = some L.txs[i] := List.getElem?_eq_getElem hil
      obtain ⟨xs, hxs⟩ : ∃ x, x = L.txs[i] := ⟨_, rfl⟩
      rw [← hxs] at hR hxo hxl hxa
      obtain ⟨vx, rfl, dx⟩ := hR
      obtain ⟨AX, cX, rfl, _⟩ := dx.form
      obtain ⟨nX, hnX⟩ : ∃ n, n = xs.length := ⟨_, rfl⟩
      have q0 := rg 0 _ rfl
      rw [Nat.add_zero, Nat.mul_one, ← hnX] at q0
      have hnX9 : nX ≤ 1000 := by rw [hnX]; exact hxl
      have HXS := Lib.hid (And.intro hxa (And.intro hxo (And.intro hxl (And.intro hnX (And.intro dx (And.intro tr hil))))))
      have HNG := Lib.hid hneg
      clear hxo hxl hxa hxs rg dx hnX hil hneg tr
      go_wp2_with fail
      go_loopw [9] (fun u wk => ∃ k : Nat, k ≤ nX ∧ u = .int .i64 k ∧ NegP L tx seq i k ∧ Turns [] wr wk) (fun u _ => nX - (intOf u).toNat)
      case atStart => exact ⟨0, by omega, rfl, HNG.out, Turns.refl _ _⟩
      case round =>
        rename World => wk
        obtain ⟨k, hk, rfl, hneg, tk⟩ := hrel
        have q3k := cellV tk q3
        have q0k := cellV tk q0
        by_cases hltk : k < nX
        · have hki : (k : Int) < (nX : Int) := by omega
          have hkl : k < xs.length := by have := HXS.out.2.2.2.1; omega
          obtain ⟨b2, off2, cc2, cs2, hv2, _, _, _, rg2, hR2⟩ := (HXS.out.2.2.2.2.1.keep TxR.lasts (tk.keeps0 _)).at_ (by omega) k hkl
          injection hv2 with e1 e2 e3
          subst e1 e3
          clear e2
          have htb : xs[k]? = some xs[k] := List.getElem?_eq_getElem hkl
          have hto := HXS.out.2.1 _ (List.getElem_mem hkl)
          obtain ⟨t, ht⟩ : ∃ x, x = xs[k] := ⟨_, rfl⟩
          rw [← ht] at hR2 htb hto
          obtain ⟨cv, rfl, dc⟩ := hR2
          obtain ⟨Ac, cc, rfl, _⟩ := dc.form
          obtain ⟨nC, hnC⟩ : ∃ n, n = t.chs.length := ⟨_, rfl⟩
          rw [← hnC] at rg2
          have hzt := size_tx t.id (.slice Ac nC cc)
          have hstep := fun h => hneg.step HXS.out.1 htb h
          rw [← hnC] at hstep
          obtain ⟨p10, hp10⟩ : ∃ q, q = wk.heap.size := ⟨_, rfl⟩
          obtain ⟨v1, hv1⟩ : ∃ x, x = wk.alloc (.cells #[.int .i64 t.id, .slice Ac nC cc] 45) := ⟨_, rfl⟩
          have b10 := Blk.new wk [.int .i64 t.id, .slice Ac nC cc] 45
          rw [show wk.alloc (.cells [.int .i64 t.id, .slice Ac nC cc].toArray 45) = v1 from hv1.symm, ← hp10] at b10
          have tv1 : Turns [] wk v1 := by rw [hv1]; exact (Turns.refl _ _).alloc _
          have i0 := b10.cell 0
          have i1 := b10.cell 1
          simp only [List.getElem?_cons_zero, List.getElem?_cons_succ] at i0 i1
          have HV := Lib.hid (And.intro hv1 hp10)
          have HST := Lib.hid hstep
          have tkv := tk.trans tv1 (by simp)
          have HTK := Lib.hid (And.intro tkv (And.intro htb (And.intro hto (And.intro hnC (And.intro (dc.keep ChgR.lasts (tv1.keeps0 _)) (And.intro b10 hkl))))))
          clear hneg tk tv1 hv1 hp10 b10 hstep htb hto ht hnC dc tkv hkl
          go_upto_region 8 with (first
            | (refine wpList_load_mid rfl 45 (.tmp 35) rfl b2 (off2 + k * 2) rfl _ _ rg2 Tryz.underlying45 rfl hzt ?_)
            | fail)
          rw [← HV.out.1, ← HV.out.2]
          clear rg2 q3k q0k
          by_cases hid : t.id = tx
          · have hib : (t.id == tx) = true := beq_iff_eq.2 hid
            by_cases hs0 : seq < 0
            · have hs0b : decide (seq < 0) = true := decide_eq_true hs0
              have HBAD := Lib.hid (HST.out (.inr (.inl hs0)))
              go_wp2_with fail
              go_roundw
              case rel => exact ⟨k + 1, by omega, by go_num, HBAD.out, HTK.out.1⟩
              case measure => (simp [intOf] <;> omega)
            · have hs0b : decide (seq < 0) = false := decide_eq_false hs0
              by_cases hsl : (nC : Int) ≤ seq
              · have hslb : decide ((nC : Int) ≤ seq) = true := decide_eq_true hsl
                have HBAD := Lib.hid (HST.out (.inr (.inr hsl)))
                go_wp2_with fail
                go_roundw
                case rel => exact ⟨k + 1, by omega, by go_num, HBAD.out, HTK.out.1⟩
                case measure => (simp [intOf] <;> omega)
              · obtain ⟨sn, rfl⟩ := Int.eq_ofNat_of_zero_le (show 0 ≤ seq by omega)
                have hsn : sn < nC := by omega
                have hslb : decide ((nC : Int) ≤ (sn : Int)) = false := decide_eq_false hsl
                have hsi : (sn : Int) < (nC : Int) := by omega
                go_upto_region 9 with fail
                have hsk : sn < t.chs.length := by have := HTK.out.2.2.2.1; omega
                have hbl : i < L.blks.length := by have := HXS.out.2.2.2.2.2.2; have := HD.out.2.2.1; omega
                have hbi : (i : Int) < (nb : Int) := by have := HD.out.2.2.2.1; omega
                have t2v := HXS.out.2.2.2.2.2.1.trans HTK.out.1 (by simp)
                obtain ⟨Y, hY⟩ : ∃ q, q = v1.drew := ⟨_, rfl⟩
                have tY : Turns [] v1 Y := by rw [hY]; exact (Turns.refl _ _).drew
                have HYY := Lib.hid hY
                have t2Y := t2v.trans tY (by simp)
                obtain ⟨bC, offC, cC, csC, hvC, _, _, _, rgC, hRC⟩ := (HTK.out.2.2.2.2.1.keep ChgR.lasts (tY.keeps0 _)).at_ (by omega) sn hsk
                injection hvC with e1 e2 e3
                subst e1 e3
                clear e2
                have hch : t.chs[sn]? = some t.chs[sn] := List.getElem?_eq_getElem hsk
                have hco := HTK.out.2.2.1.chs _ (List.getElem_mem hsk)
                obtain ⟨c, hc⟩ : ∃ c, c = t.chs[sn] := ⟨_, rfl⟩
                rw [← hc] at hRC hch hco
                obtain ⟨rv, rfl, hsr⟩ := hRC
                obtain ⟨Ar, cr, rfl, _⟩ := hsr.form'
                obtain ⟨bB, offB, cB, hvB, _, _, rgB⟩ := blo_at (HD.out.1.blks.keep (t2Y.keeps0 _)) HD.out.2.1.blo i hbl
                injection hvB with e1 e2 e3
                subst e1 e3
                clear e2
                have hbk : L.blks[i]? = some L.blks[i] := List.getElem?_eq_getElem hbl
                have hbo := HD.out.2.1.blo _ (List.getElem_mem hbl)
                obtain ⟨bk, hbke⟩ : ∃ x, x = L.blks[i] := ⟨_, rfl⟩
                rw [← hbke] at rgB hbk hbo
                have hbr := built_rrec6 (mkRec t xs bk k sn c) hbo (.slice Ar c.row.length cr)
                have hrl := recCells_len (r := mkRec t xs bk k sn c) hbo (.slice Ar c.row.length cr) (.slice none 0 0) (.slice none 0 0)
                have hro := recCells_one (mkRec t xs bk k sn c) (rv := .slice Ar c.row.length cr) (hv := .slice none 0 0) (ev := .slice none 0 0) rfl rfl rfl
                obtain ⟨rcs, hrcs⟩ : ∃ x, x = recCells (mkRec t xs bk k sn c) (.slice Ar c.row.length cr) (.slice none 0 0) (.slice none 0 0) := ⟨_, rfl⟩
                rw [← hrcs] at hbr hrl hro
                obtain ⟨bcs, hbcs⟩ : ∃ x, x = bk.cells := ⟨_, rfl⟩
                have hbcl : bcs.length = 66 := by rw [hbcs]; exact Blo.cells_len hbo
                replace hbr : Tryz.prog.built 77 [(0, .int .i64 t.id), (1, .int .i64 sn), (2, .int .i64 ((nC : Nat) : Int)), (3, .agg #[.string c.table, .int .i64 c.op, .slice Ar c.row.length cr]), (5, .int .i64 k), (7, .agg bcs.toArray)] = some rcs.toArray := by
                  rw [hbcs, HTK.out.2.2.2.1]; exact hbr
                rw [hid] at hbr
                rw [← hbcs] at rgB
                have hzc := size_chg c.table c.op (.slice Ar c.row.length cr)
                have hzb := size_rblo bcs hbcl
                have HBR := Lib.hid hbr
                have HRC := Lib.hid (And.intro hrcs (And.intro (show zz.length = rcs.length by rw [HZ.out.2, hrl]) (And.intro (size_rrec rcs hrl) hro)))
                have T1 := cellV tY i1
                have C2 := cellV t2Y c2
                have HTY := Lib.hid (And.intro tY t2Y)
                have HMK := Lib.hid (show MkP L tx sn (mkRec t xs bk k sn c) 0 from .inl ⟨rfl, i, k, sn, xs, t, bk, c, HXS.out.1, HTK.out.2.1, hbk, hch, hid, rfl, rfl⟩)
                have HSR := Lib.hid (And.intro hsr (And.intro hsk hid))
                have S0 : Turns [] Y Y := Turns.refl _ _
                clear hid hsl hs0 hsk hbl t2v hY tY t2Y hch hco hc hsr hbk hbo hbke hbr hrl hro hrcs hbcs hbcl
                refine rk0 (fun W => Turns [] Y W) (fun _ => True) 19 19 ?_
                rw [← HYY.out]
                refine rkA 0 52 1 (v := ?_) ?_ (.mk' S0 trivial) ?_
                rotate_left
                · intro W hS; go_simp; all_goals with_reducible rfl
                try simp only [sI, sS, sZ]
                refine rkA 1 53 3 (v := ?_) ?_ (.mk' S0 trivial) ?_
                rotate_left
                · intro W hS; go_simp; all_goals with_reducible rfl
                try simp only [sI, sS, sZ]
                refine rkA 2 54 7 (v := ?_) ?_ (.mk' S0 trivial) ?_
                rotate_left
                · intro W hS; go_simp; all_goals with_reducible rfl
                try simp only [sI, sS, sZ]
                refine rkA 3 55 15 (v := ?_) ?_ (.mk' S0 trivial) ?_
                rotate_left
                · intro W hS; have c0 := cellL hS T1 (by simp); go_simp; all_goals with_reducible rfl
                try simp only [sI, sS, sZ]
                refine rkA 4 56 31 (v := ?_) ?_ (.mk' S0 trivial) ?_
                rotate_left
                · intro W hS; go_simp; all_goals with_reducible rfl
                try simp only [sI, sS, sZ]
                refine rkA 5 57 63 (v := ?_) ?_ (.mk' S0 trivial) ?_
                rotate_left
                · intro W hS; go_simp; all_goals with_reducible rfl
                try simp only [sI, sS, sZ]
                refine rkA 6 58 127 (v := ?_) ?_ (.mk' S0 trivial) ?_
                rotate_left
                · intro W hS; have c0 := cellL hS T1 (by simp); go_simp; all_goals with_reducible rfl
                try simp only [sI, sS, sZ]
                refine rkA 7 59 255 (v := ?_) ?_ (.mk' S0 trivial) ?_
                rotate_left
                · intro W hS; go_simp; all_goals with_reducible rfl
                try simp only [sI, sS, sZ]
                refine rkA 8 60 511 (v := ?_) ?_ (.mk' S0 trivial) ?_
                rotate_left
                · intro W hS; go_simp; all_goals with_reducible rfl
                try simp only [sI, sS, sZ]
                refine rkY 9 61 1023 rfl (yieldsIf_load_mid (by rfl) _ _ rfl bC (offC + sn * 3) (by rfl) [.string c.table, .int .i64 c.op, .slice Ar c.row.length cr] _ (fun W hS => rangeV hS rgC) Tryz.underlying67 rfl hzc) (.mk' S0 trivial) ?_
                try simp only [sI, sS, sZ]
                refine rkA 10 62 2047 (v := ?_) ?_ (.mk' S0 trivial) ?_
                rotate_left
                · intro W hS; go_simp; all_goals with_reducible rfl
                try simp only [sI, sS, sZ]
                refine rkA 11 63 4095 (v := ?_) ?_ (.mk' S0 trivial) ?_
                rotate_left
                · intro W hS; go_simp; all_goals with_reducible rfl
                try simp only [sI, sS, sZ]
                refine rkA 12 64 8191 (v := ?_) ?_ (.mk' S0 trivial) ?_
                rotate_left
                · intro W hS; have c0 := cellL hS C2 (by simp); go_simp; all_goals with_reducible rfl
                try simp only [sI, sS, sZ]
                refine rkA 13 65 16383 (v := ?_) ?_ (.mk' S0 trivial) ?_
                rotate_left
                · intro W hS; go_simp; all_goals with_reducible rfl
                try simp only [sI, sS, sZ]
                refine rkA 14 66 32767 (v := ?_) ?_ (.mk' S0 trivial) ?_
                rotate_left
                · intro W hS; go_simp; all_goals with_reducible rfl
                try simp only [sI, sS, sZ]
                refine rkY 15 67 65535 rfl (yieldsIf_load_mid (by rfl) _ _ rfl bB (offB + i * 66) (by rfl) bcs _ (fun W hS => rangeV hS rgB) Tryz.underlying75 rfl hzb) (.mk' S0 trivial) ?_
                try simp only [sI, sS, sZ]
                refine rkY 16 68 131071 rfl (yieldsIf_build (by rfl) 77 _ (by rfl) rcs.toArray ((congrArg (Tryz.prog.built 77) (by kernel_rfl)).trans HBR.out)) (.mk' S0 trivial) ?_
                try simp only [sI, sS, sZ]
                refine rk1 17 262143 (fun K hK => ?_)
                refine wp_alloc_arr 77 (by rfl) zz.toArray hz2 ?_
                have B11 := Blk.new Y zz 77
                have D11 : Turns [] Y (Y.alloc (.cells zz.toArray 77)) := (Turns.refl _ _).alloc _
                obtain ⟨g11, hg11⟩ : ∃ g, g = Y.heap.size := ⟨_, rfl⟩
                have G11 := Lib.hid (show Y.heap.size ≤ g11 by rw [hg11]; exact (Turns.refl [] Y).size)
                have GL11 := Lib.hid (show Y.heap.size ≤ g11 ∧ g11 < (Y.alloc (.cells zz.toArray 77)).heap.size by rw [hg11]; simp)
                rw [← hg11] at B11 ⊢
                clear hg11
                generalize Y.alloc (.cells zz.toArray 77) = X11 at B11 D11 GL11 ⊢
                refine hK _ _ (.mk' ((Turns.refl [] Y).trans D11 (by simp)) trivial) ?_
                clear hK K
                try simp only [sI, sS, sZ]
                refine rk1 18 524287 (fun K hK => ?_)
                refine wp_store_blk 77 _ _ (by rfl) g11 (by rfl) rcs zz 77 (by rfl) B11 HRC.out.2.1 HRC.out.2.2.1 HRC.out.2.2.2 (fun X18 hb18 ht18 => ?_)
                have D18 : Turns [] Y X18 := D11.trans ht18 (by intro x hx; simp at hx; exact .inr (by rw [hx]; exact G11.out))
                refine hK _ _ (.mk' D18 trivial) ?_
                clear hK K
                try simp only [sI, sS, sZ]
                refine rkZ ?_
                obtain ⟨F, hF⟩ : ∃ q, q = X18 := ⟨_, rfl⟩
                have H9 := Lib.hid (And.intro hb18 (And.intro D18 G11.out))
                have r10 := (HTK.out.2.2.2.2.2.1.turns (HTY.out.1.trans D18 (by simp)) (by simp)).all
                have hto := HTK.out.2.2.1
                have dcF := HTK.out.2.2.2.2.1.keep ChgR.lasts ((HTY.out.1.trans D18 (by simp)).keeps0 _)
                have RR := RRows_any t hto _ _ X18 dcF
                rw [← HTK.out.2.2.2.1] at RR
                have HRR := Lib.hid RR
                have q3F := cellV (HTK.out.1.trans (HTY.out.1.trans D18 (by simp)) (by simp)) q3
                have q0F := cellV (HTK.out.1.trans (HTY.out.1.trans D18 (by simp)) (by simp)) q0
                have h11F := hb18.cell 6
                have h11G := hb18.cell 8
                clear hF F hto dcF RR C2 T1 S0 rgC rgB i0 i1 hb18 ht18 D18
                go_wp2_with (first
                  | (refine wpList_load_mid rfl 45 (.tmp 10) rfl p10 0 rfl _ _ r10 Tryz.underlying45 rfl hzt ?_)
                  | fail)
                refine HRR.out.mono ?_
                rintro e y2 ⟨A2, a2, rfl, m2⟩
                have hlr : (txRows t).length = nC := by rw [txRows_len, HTK.out.2.2.2.1]
                have PR := Lib.hid (refProof_in nC (txRows t) nC sn hlr (Nat.le_refl _) (by have := HTK.out.2.2.1.len; have := HTK.out.2.2.2.1; omega) hsn A2 a2 _ y2 m2.hs (Nat.le_refl _))
                have H2 := Lib.hid m2.turns
                clear m2 r10 HRR
                go_wp2_with fail
                refine PR.out.mono ?_
                rintro e y3 ⟨A3, a3, rfl, m3⟩
                have t93 := H2.out.trans m3.turns (by simp)
                obtain ⟨nP, hnP⟩ : ∃ n, n = (mproof (txRows t) sn).length := ⟨_, rfl⟩
                rw [← hnP] at m3 ⊢
                obtain ⟨y4, hy4⟩ : ∃ x, x = y3.setCell ⟨g11, 6, none⟩ (.slice A3 nP a3) := ⟨_, rfl⟩
                have b93 := H9.out.1.turns t93 (by simp)
                have k6 := b93.cell 6
                have z6 := b93.free 6
                rw [HRC.out.1] at k6
                replace k6 : y3.cell? ⟨g11, 6, none⟩ = some (.slice none 0 0) := k6
                have b94 := b93.set 6 (.slice A3 nP a3)
                rw [← hy4] at b94
                have t4 : Turns [g11] y3 y4 := by rw [hy4]; exact (Turns.refl _ _).setCell (.inl (by simp)) _
                have hg0 : x2.heap.size ≤ g11 := by have := HTY.out.2.size; have := H9.out.2.2; omega
                have t94 : Turns [] wr y4 := ((HTK.out.1.trans HTY.out.1 (by simp)).trans (H9.out.2.1.trans t93 (by simp)) (by simp)).trans t4 (by intro x hx; simp at hx; exact .inr (by rw [hx]; have := HXS.out.2.2.2.2.2.1.size; have := HTK.out.1.size; have := HTY.out.1.size; have := H9.out.2.2; omega))
                have q3G := cellV t94 q3
                have q0G := cellV t94 q0
                have EN := Entries_any xs HXS.out.2.2.1 HXS.out.2.1 _ _ y4 (HXS.out.2.2.2.2.1.keep TxR.lasts (t94.keeps0 _))
                rw [← HXS.out.2.2.2.1] at EN
                have HEN := Lib.hid EN
                have HY4 := Lib.hid hy4
                have H4 := Lib.hid (And.intro b94 (And.intro m3 (And.intro t4 (And.intro t94 (And.intro hg0 hnP)))))
                clear hy4 b93 b94 t4 t94 t93 m3 q3F q0F EN h11F h11G PR hnP
                go_upto_region 11 with fail
                rw [← HY4.out]
                clear k6 z6
                go_wp2_with fail
                refine HEN.out.mono ?_
                rintro e y5 ⟨A5, a5, rfl, m5⟩
                have hle : (xs.map entry).length = nX := by rw [List.length_map, HXS.out.2.2.2.1]
                have PE := Lib.hid (refProof_in nX (xs.map entry) nX k hle (Nat.le_refl _) (by omega) hltk A5 a5 _ y5 m5.hs (Nat.le_refl _))
                have H5 := Lib.hid m5.turns
                clear m5 HEN q3G q0G
                go_wp2_with fail
                refine PE.out.mono ?_
                rintro e y6 ⟨A6, a6, rfl, m6⟩
                have t46 := H5.out.trans m6.turns (by simp)
                obtain ⟨nQ, hnQ⟩ : ∃ n, n = (mproof (xs.map entry) k).length := ⟨_, rfl⟩
                rw [← hnQ] at m6 ⊢
                obtain ⟨y7, hy7⟩ : ∃ x, x = y6.setCell ⟨g11, 8, none⟩ (.slice A6 nQ a6) := ⟨_, rfl⟩
                have b96 := H4.out.1.turns t46 (by simp)
                have k8 := b96.cell 8
                have z8 := b96.free 8
                rw [HRC.out.1] at k8
                replace k8 : y6.cell? ⟨g11, 8, none⟩ = some (.slice none 0 0) := k8
                have b97 := b96.set 8 (.slice A6 nQ a6)
                rw [← hy7] at b97
                have t7 : Turns [g11] y6 y7 := by rw [hy7]; exact (Turns.refl _ _).setCell (.inl (by simp)) _
                have hfin : (rcs.set 6 (.slice A3 nP a3)).set 8 (.slice A6 nQ a6) = recCells (mkRec t xs bk k sn c) (.slice Ar c.row.length cr) (.slice A3 nP a3) (.slice A6 nQ a6) := by rw [HRC.out.1]; rfl
                obtain ⟨fcs9, hfcs⟩ : ∃ x, x = recCells (mkRec t xs bk k sn c) (.slice Ar c.row.length cr) (.slice A3 nP a3) (.slice A6 nQ a6) := ⟨_, rfl⟩
                replace b97 : Blk y7 g11 fcs9 77 := by rw [hfcs, ← hfin]; exact b97
                have r7 := b97.all
                have hbo : bk.ok := HMK.out.blk_ok HD.out.2.1
                have hfl : fcs9.length = 75 := by rw [hfcs]; exact recCells_len (r := mkRec t xs bk k sn c) hbo _ _ _
                have hfo : ∀ u ∈ fcs9, u.oneCell' = true := by rw [hfcs]; exact recCells_one (mkRec t xs bk k sn c) rfl rfl rfl
                have hzf := size_rrec fcs9 hfl
                have t27 : Turns [] x2 y7 := (HXS.out.2.2.2.2.2.1.trans (H4.out.2.2.2.1.trans t46 (by simp)) (by simp)).trans t7 (by intro x hx; simp at hx; exact .inr (by rw [hx]; exact H4.out.2.2.2.2.1))
                have HB67 := Lib.hid (HB6.out.turns t27 (by simp))
                have HF := Lib.hid (And.intro hfcs (And.intro hfl (And.intro hfo (And.intro t27 (And.intro m6 (And.intro t46 (And.intro t7 hnQ)))))))
                have HZF := Lib.hid (show zz.length = fcs9.length by rw [HZ.out.2, hfl])
                have HY7 := Lib.hid hy7
                clear hy7 b96 b97 t7 t27 t46 m6 hfin hfcs hbo hfl hfo PE hnQ
                go_upto_region 12 with fail
                rw [← HY7.out]
                clear k8 z8
                go_wp2_with (first
                  | (refine wpList_load_mid rfl 77 (.tmp 11) rfl g11 0 rfl fcs9 _ r7 Tryz.underlying77 rfl hzf ?_)
                  | (refine wpList_store_blk rfl 77 (.tmp 6) (.tmp 89) rfl p6 (by kernel_rfl) fcs9 zz 77 (by kernel_rfl) HB67.out HZF.out hzf HF.out.2.2.1 (fun w9 hb9 ht9 hs9 => ?_); have HQ9 := Lib.hid (And.intro hb9 ht9); clear hb9 ht9 hs9)
                  | fail)
                refine bodyPost_ret (results_two rfl _ _ p6 _ _ _ (.int .i64 0) (by kernel_rfl) (by kernel_rfl) HQ9.out.1 Tryz.underlying77 rfl (by rw [List.size_toArray]; exact hzf)) rfl ?_
                have t79 := HQ9.out.2
                have h6 := HT0.out.2
                have hx9 : Turns [] x2 y7 := HF.out.2.2.2.1
                have t09 : Turns [] w0 w9 := (HT0.out.1.trans hx9 (by simp)).trans t79 (by intro x hx; simp at hx; exact .inr (by omega))
                have m3 := H4.out.2.1
                have m6 := HF.out.2.2.2.2.1
                have hs2 := HXS.out.2.2.2.2.2.1.size
                have hs3 := HTK.out.1.size
                have hs4 := HTY.out.1.size
                have hs5 := H9.out.2.1.size
                have hg5 := (HTK.out.2.2.2.2.2.1.turns (HTY.out.1.trans H9.out.2.1 (by simp)) (by simp)).lt
                have hlt9 := H9.out.1.lt
                have hs6 := H2.out.size
                have hs7 := H4.out.2.2.1.size
                have hs8 := H5.out.size
                have k36 : Turns [p6, g11] y3 w9 := ((H4.out.2.2.1.mono (L' := [p6, g11]) (by simp)).trans ((HF.out.2.2.2.2.2.1.mono (L' := [p6, g11]) (by simp)).trans ((HF.out.2.2.2.2.2.2.1.mono (L' := [p6, g11]) (by simp)).trans (t79.mono (L' := [p6, g11]) (by simp)) (fun x hx => .inl hx)) (fun x hx => .inl hx)) (fun x hx => .inl hx))
                have k69 : Turns [p6, g11] y6 w9 := (HF.out.2.2.2.2.2.2.1.mono (L' := [p6, g11]) (by simp)).trans (t79.mono (L' := [p6, g11]) (by simp)) (fun x hx => .inl hx)
                have tY9 : Turns [p6, g11] Y w9 := (((H9.out.2.1.trans H2.out (by simp)).trans m3.turns (by simp)).mono (L' := [p6, g11]) (by simp)).trans k36 (fun x hx => .inl hx)
                refine ⟨mkRec t xs bk k sn c, .slice Ar c.row.length cr, .slice A3 nP a3, .slice A6 nQ a6, 0, by rw [HF.out.1], ⟨?_, ?_, ?_, ?_⟩, HMK.out, t09⟩
                · refine (HSR.out.1.keep (tY9.keepsB _ fun x hx hlt hS => ?_)).mono (fun _ _ h => h.1)
                  replace hS : x < w0.heap.size := hS.2
                  have h9 := H9.out.2.2
                  have h1 := HTY.out.2.size
                  have h2 := HT0.out.1.size
                  simp at hx
                  rcases hx with rfl | rfl <;> omega
                · refine (m3.hs.turns k36 (Nat.le_refl _) fun x hx e => ?_).more k36.size
                  have := (m3.own.lt x e).1
                  simp at hx
                  rcases hx with rfl | rfl <;> omega
                · refine (m6.hs.turns k69 (Nat.le_refl _) fun x hx e => ?_).more k69.size
                  have := (m6.own.lt x e).1
                  have := m3.turns.size
                  simp at hx
                  rcases hx with rfl | rfl <;> omega
                · intro v hv x e
                  have h1 := HTY.out.2.size
                  have h2 := HT0.out.1.size
                  have h3 := m3.turns.size
                  simp at hv
                  rcases hv with rfl | rfl
                  · have := (m3.own.lt x e).1; omega
                  · have := (m6.own.lt x e).1; omega
          · have hib : (t.id == tx) = false := beq_eq_false_iff_ne.2 hid
            have HBAD := Lib.hid (HST.out (.inl hid))
            go_wp2_with fail
            go_roundw
            case rel => exact ⟨k + 1, by omega, by go_num, HBAD.out, HTK.out.1⟩
            case measure => (simp [intOf] <;> omega)
        · obtain rfl : nX = k := by omega
          have HNX := Lib.hid (NegP.next HXS.out.1 (by rw [← HXS.out.2.2.2.1]; exact hneg))
          have HTN := Lib.hid (HXS.out.2.2.2.2.2.1.trans tk (by simp))
          clear hneg tk hk hltk
          go_wp2_with fail
          go_roundw
          case rel => exact ⟨i + 1, by omega, by go_num, HNX.out, HTN.out⟩
          case measure => (simp [intOf] <;> omega)
    · obtain rfl : nT = i := by omega
      have HNN := Lib.hid (hneg.none HD.out.2.2.2.2)
      have HB62 := Lib.hid (HB6.out.turns tr (by simp))
      have HZ0 := Lib.hid (And.intro (show zz.length = rz.length by rw [HZ.out.1]) (And.intro (size_rrec rz rz_len) (recCells_one rec0 (rv := .slice none 0 0) (hv := .slice none 0 0) (ev := .slice none 0 0) rfl rfl rfl)))
      have HTR := Lib.hid tr
      clear hneg tr hi hlt
      go_wp2_with (first
        | (refine wpList_store_blk rfl 77 (.tmp 6) (.tmp 90) rfl p6 (by kernel_rfl) rz zz 77 (by kernel_rfl) HB62.out HZ0.out.1 HZ0.out.2.1 HZ0.out.2.2 (fun w9 hb9 ht9 hs9 => ?_); have HQ9 := Lib.hid (And.intro hb9 ht9); clear hb9 ht9 hs9)
        | fail)
      refine bodyPost_ret (results_two rfl _ _ p6 _ _ _ (.int .i64 2) (by kernel_rfl) (by kernel_rfl) HQ9.out.1 Tryz.underlying77 rfl (by rw [List.size_toArray]; exact HZ0.out.2.1)) rfl ?_
      exact ⟨rec0, .slice none 0 0, .slice none 0 0, .slice none 0 0, 2, rfl, ⟨SlS.nil, Hs.nil, Hs.nil, by intro v hv k e; simp at hv; subst hv; simp [Value.ownBlock] at e⟩, HNN.out, (HT0.out.1.trans HTR.out (by simp)).trans HQ9.out.2 (by intro x hx; simp at hx; exact .inr (by have := HT0.out.2; omega))⟩
end Go.Proofs.YtoahnhphfabajaaGreat
