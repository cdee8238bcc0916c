/- Receipts: a transaction is looked for. -/
import Derived.Test.YtoahnhphfabajaaGreatRc1
namespace Go.Proofs.YtoahnhphfabajaaGreat
open Go.RowKit
set_option linter.unusedVariables false
set_option maxRecDepth 10000
set_option linter.unusedSimpArgs false
set_option linter.unnecessarySimpa false

/-- What is known when all ahead of place k of block i was looked at. -/
def FndK (L : Led) (tx : Int) (i k a b : Nat) (is : Bool) : Prop :=
  (is = true ∧ ∃ (ha : a < L.txs.length) (hb : b < L.txs[a].length), L.txs[a][b].id = tx) ∨
  (is = false ∧ a = 0 ∧ b = 0 ∧ ∀ i' (hi : i' < L.txs.length) k' (hk : k' < L.txs[i'].length), (i' < i ∨ (i' = i ∧ k' < k)) → L.txs[i'][k'].id ≠ tx)
theorem FndK.zero (L : Led) (tx : Int) : FndK L tx 0 0 0 0 false := .inr ⟨rfl, rfl, rfl, fun i' _ k' _ h => by omega⟩
theorem FndK.same {L : Led} {tx : Int} {i k a b : Nat} {is : Bool} (h : FndK L tx i k a b is) (hi : i < L.txs.length) (hk : k < L.txs[i].length) (hne : L.txs[i][k].id ≠ tx ∨ is = true) : FndK L tx i (k + 1) a b is := by
  rcases h with h | ⟨h1, h2, h3, h4⟩
  · exact .inl h
  · rcases hne with hne | hne
    · refine .inr ⟨h1, h2, h3, fun i' hi' k' hk' h => ?_⟩
      by_cases e : i' = i ∧ k' = k
      · obtain ⟨rfl, rfl⟩ := e; exact hne
      · exact h4 i' hi' k' hk' (by omega)
    · rw [h1] at hne; cases hne
theorem FndK.next {L : Led} {tx : Int} {i a b : Nat} {is : Bool} (hi : i < L.txs.length) (h : FndK L tx i L.txs[i].length a b is) : FndK L tx (i + 1) 0 a b is := by
  rcases h with h | ⟨h1, h2, h3, h4⟩
  · exact .inl h
  · refine .inr ⟨h1, h2, h3, fun i' hi' k' hk' h => ?_⟩
    refine h4 i' hi' k' hk' ?_
    by_cases e : i' = i
    · subst e; exact .inr ⟨rfl, hk'⟩
    · omega
def fcs (nx : Int) (ov bv tv d s m : Value) (a b : Nat) (is : Bool) : List Value := [.int .i64 nx, ov, bv, tv, d, s, m, .int .i64 a, .int .i64 b, .bool is]
set_option maxRecDepth 100000 in
set_option maxHeartbeats 8000000 in
theorem find_any (L : Led) (hL : L.ok) (hbt : L.blks.length = L.txs.length) (tx : Int) (pf : Nat) (ov tv d s m : Value) (Ab : Option Addr) (cb : Nat) (S : Nat → Prop) (hS : ¬ S pf) (w : World)
    (hb : Blk w pf (fcs L.next ov (.slice Ab L.blks.length cb) tv d s m 0 0 false) 116) (hd : Deep TxsR w S 1 tv L.txs) :
    Calls Tryz.prog 45 #[.pointer (some ⟨pf, 0, none⟩), .int .i64 tx] w fun e w' => e = .returned (.tuple #[]) ∧ ∃ a b is, Blk w' pf (fcs L.next ov (.slice Ab L.blks.length cb) tv d s m a b is) 116 ∧ FndK L tx L.txs.length 0 a b is ∧ Turns [pf] w w' := by
  obtain ⟨At, ct, rfl, _⟩ := hd.form
  rw [hbt] at hb ⊢
  obtain ⟨nT, hnT⟩ : ∃ n, n = L.txs.length := ⟨_, rfl⟩
  rw [← hnT] at hb ⊢
  have hn9 : nT ≤ 100000 := by rw [hnT]; exact hL.txs
  have HN := Lib.hid hnT
  have HL := Lib.hid hL
  have HD := Lib.hid (And.intro hd hS)
  have c3 := hb.cell 3
  simp only [fcs, List.getElem?_cons_zero, List.getElem?_cons_succ] at c3
  have HB := Lib.hid hb
  clear hb hd hL hS hbt hnT
  go_enter Tryz.func45, Tryz.ntmps45
  go_wp2_with fail
  go_loopw [14] (fun u wr => ∃ i : Nat, i ≤ nT ∧ u = .int .i64 i ∧ ∃ a b is, Blk wr pf (fcs L.next ov (.slice Ab nT cb) (.slice At nT ct) d s m a b is) 116 ∧ FndK L tx i 0 a b is ∧ Turns [pf] w wr) (fun u _ => nT - (intOf u).toNat)
  case atStart => exact ⟨0, by omega, rfl, 0, 0, false, HB.out, FndK.zero L tx, Turns.refl _ _⟩
  case round =>
    rename World => ws
    obtain ⟨i, hi, rfl, a, b, is, bk, fk, tk⟩ := hrel
    by_cases hlt : i < nT
    · have hii : (i : Int) < (nT : Int) := by omega
      have hil : i < L.txs.length := by have := HN.out; omega
      obtain ⟨bT, offT, cc, cs, hv, hSb, hbT, hcl, rg0, hR0⟩ := HD.out.1.at_ (by omega) i hil
      injection hv with e1 e2 e3
      subst e1 e3
      clear e2
      have hne : bT ≠ pf := fun e => HD.out.2 (e ▸ hSb)
      have rg := rangeT tk rg0 (by simpa using hne)
      have hR := TxsR.lasts.keep hR0 (tk.keepsB S (fun x hx _ h => by simp at hx; subst hx; exact HD.out.2 h))
      obtain ⟨xs, hxs⟩ : ∃ x, x = L.txs[i] := ⟨_, rfl⟩
      rw [← hxs] at hR
      obtain ⟨vx, rfl, dx⟩ := hR
      obtain ⟨AX, cX, rfl, _⟩ := dx.form
      have q0 := rg 0 _ rfl
      rw [Nat.add_zero, Nat.mul_one] at q0
      obtain ⟨nX, hnX⟩ : ∃ n, n = xs.length := ⟨_, rfl⟩
      rw [← hnX] at q0
      have hnx9 : nX ≤ 1000 := by rw [hnX, hxs]; exact HL.out.tl _ (List.getElem_mem hil)
      have HX := Lib.hid (And.intro hnX (And.intro hxs (And.intro dx tk)))
      have HIL := Lib.hid hil
      have HS0 := Lib.hid (And.intro bk fk)
      clear hnX hxs dx tk bk fk rg0 rg hR0 hcl hSb hbT hne hi hlt
      go_wp2_with fail
      go_loopw [21] (fun u wr => ∃ k : Nat, k ≤ nX ∧ u = .int .i64 k ∧ ∃ a b is, Blk wr pf (fcs L.next ov (.slice Ab nT cb) (.slice (some ⟨bT, offT, none⟩) nT ct) d s m a b is) 116 ∧ FndK L tx i k a b is ∧ Turns [pf] ws wr) (fun u _ => nX - (intOf u).toNat)
      case atStart => exact ⟨0, by omega, rfl, a, b, is, HS0.out.1, HS0.out.2, Turns.refl _ _⟩
      case round =>
        rename World => wt
        obtain ⟨k, hk, rfl, a, b, is, bk, fk, tk⟩ := hrel
        by_cases hltk : k < nX
        · have hki : (k : Int) < (nX : Int) := by omega
          have hkl : k < xs.length := by have := HX.out.1; omega
          obtain ⟨b2, off2, cc2, cs2, hv2, hSb2, hb2, hcl2, rg0, hR0⟩ := HX.out.2.2.1.at_ (by omega) k hkl
          injection hv2 with e1 e2 e3
          subst e1 e3
          clear e2
          have hne : b2 ≠ pf := fun e => HD.out.2 (e ▸ hSb2)
          have rg := rangeT tk rg0 (by simpa using hne)
          obtain ⟨t, ht⟩ : ∃ x, x = xs[k] := ⟨_, rfl⟩
          rw [← ht] at hR0
          obtain ⟨cv, rfl, dc⟩ := hR0
          obtain ⟨Ac, c3', rfl, _⟩ := dc.form
          clear dc
          have hte : ∀ (h1 : i < L.txs.length) (h2 : k < L.txs[i].length), L.txs[i][k].id = t.id := fun h1 h2 => by rw [ht]; congr 1; simp [HX.out.2.1]
          have hkL : k < (L.txs[i]'HIL.out).length := by rw [← HX.out.2.1]; exact hkl
          have hz1 := size_tx t.id (.slice Ac t.chs.length c3')
          have ta : Turns [] wt (wt.alloc (.cells #[.int .i64 t.id, .slice Ac t.chs.length c3'] 45)) := (Turns.refl _ _).alloc _
          have bA := Blk.new wt [.int .i64 t.id, .slice Ac t.chs.length c3'] 45
          rw [show wt.alloc (.cells [.int .i64 t.id, .slice Ac t.chs.length c3'].toArray 45) = wt.alloc (.cells #[.int .i64 t.id, .slice Ac t.chs.length c3'] 45) from rfl] at bA
          obtain ⟨W, hW⟩ : ∃ x, x = wt.alloc (.cells #[.int .i64 t.id, .slice Ac t.chs.length c3'] 45) := ⟨_, rfl⟩
          rw [← hW] at ta bA
          have bkW := bk.turns ta (by simp)
          have t0 := bA.cell 0
          have k2 := bkW.cell 2
          have k9 := bkW.cell 9
          simp only [fcs, List.getElem?_cons_zero, List.getElem?_cons_succ] at t0 k2 k9
          have HWW := Lib.hid hW
          have HTK := Lib.hid (And.intro bkW (tk.trans ta (by simp)))
          have HFK := Lib.hid (And.intro fk (And.intro hte hkL))
          clear hSb2 hb2 hcl2 rg0 hne ht hte hkl ta bA hW bkW bk fk tk hltk hk
          by_cases hid : t.id = tx
          · have hidb : (t.id == tx) = true := beq_iff_eq.2 hid
            have HID := Lib.hid hid
            clear hid
            cases is with
            | true =>
              have HFN := Lib.hid (HFK.out.1.same HIL.out HFK.out.2.2 (.inr rfl))
              go_upto_region 6 with (first
                | (refine wpList_load_mid rfl 45 (.tmp 24) rfl b2 (off2 + k * 2) rfl _ _ rg Tryz.underlying45 rfl hz1 ?_)
                | fail)
              rw [← HWW.out]
              go_wp2_with fail
              go_roundw
              case rel => exact ⟨k + 1, by omega, by go_num, a, b, true, HTK.out.1, HFN.out, HTK.out.2⟩
              case measure => (simp [intOf] <;> omega)
            | false =>
              have HFN := Lib.hid (show FndK L tx i (k + 1) i k true from .inl ⟨rfl, HIL.out, HFK.out.2.2, by rw [HFK.out.2.1]; exact HID.out⟩)
              go_upto_region 6 with (first
                | (refine wpList_load_mid rfl 45 (.tmp 24) rfl b2 (off2 + k * 2) rfl _ _ rg Tryz.underlying45 rfl hz1 ?_)
                | fail)
              rw [← HWW.out]
              have k7 := HTK.out.1.cell 7
              have k8 := HTK.out.1.cell 8
              have z7 := HTK.out.1.free 7
              have z8 := HTK.out.1.free 8
              have z9 := HTK.out.1.free 9
              simp only [fcs, List.getElem?_cons_zero, List.getElem?_cons_succ] at k7 k8
              have tS : Turns [pf] W (((W.setCell ⟨pf, 7, none⟩ (.int .i64 i)).setCell ⟨pf, 8, none⟩ (.int .i64 k)).setCell ⟨pf, 9, none⟩ (.bool true)) := (((Turns.refl _ W).setCell (.inl (by simp)) _).setCell (.inl (by simp)) _).setCell (.inl (by simp)) _
              have HFB := Lib.hid (And.intro (((HTK.out.1.set 7 (.int .i64 i)).set 8 (.int .i64 k)).set 9 (.bool true)) (HTK.out.2.trans tS (fun x hx => .inl hx)))
              clear tS
              go_wp2_with fail
              go_roundw
              case rel => exact ⟨k + 1, by omega, by go_num, i, k, true, HFB.out.1, HFN.out, HFB.out.2⟩
              case measure => (simp [intOf] <;> omega)
          · have hidb : (t.id == tx) = false := beq_eq_false_iff_ne.2 hid
            have HFN := Lib.hid (HFK.out.1.same HIL.out HFK.out.2.2 (.inl (by rw [HFK.out.2.1]; exact hid)))
            clear hid
            go_upto_region 6 with (first
              | (refine wpList_load_mid rfl 45 (.tmp 24) rfl b2 (off2 + k * 2) rfl _ _ rg Tryz.underlying45 rfl hz1 ?_)
              | fail)
            rw [← HWW.out]
            go_wp2_with fail
            go_roundw
            case rel => exact ⟨k + 1, by omega, by go_num, a, b, is, HTK.out.1, HFN.out, HTK.out.2⟩
            case measure => (simp [intOf] <;> omega)
        · obtain rfl : k = nX := by omega
          have HFN := Lib.hid (show FndK L tx (i + 1) 0 a b is from FndK.next HIL.out (by have h1 := HX.out.1; have h2 := HX.out.2.1; rw [h2] at h1; rw [← h1]; exact fk))
          have HTK := Lib.hid (And.intro bk (HX.out.2.2.2.trans tk (fun x hx => .inl hx)))
          clear bk fk tk
          go_wp2_with fail
          go_roundw
          case rel => exact ⟨i + 1, by omega, by go_num, a, b, is, HTK.out.1, HFN.out, HTK.out.2⟩
          case measure => (simp [intOf] <;> omega)
    · obtain rfl : i = nT := by omega
      have HF := Lib.hid (And.intro bk (And.intro fk tk))
      clear bk fk tk
      go_wp2_with fail
      go_end0
      exact ⟨rfl, a, b, is, HF.out⟩
end Go.Proofs.YtoahnhphfabajaaGreat
