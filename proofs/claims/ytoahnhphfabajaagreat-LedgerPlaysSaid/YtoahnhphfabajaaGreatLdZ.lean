/- Few; the document's ledger of steps: walked. -/
import Derived.Test.YtoahnhphfabajaaGreatLdY
namespace Go.Proofs.YtoahnhphfabajaaGreat
open Go.RowKit
set_option linter.unusedVariables false
set_option maxRecDepth 10000
set_option linter.unusedSimpArgs false
set_option linter.unnecessarySimpa false

def fewSs (l : List Stp) : Bool := l.all fewS && decide (l.length ≤ 40)
theorem fewSs_bad (l : List Stp) (k : Nat) (hk : k < l.length) (h : fewS l[k] = false) : fewSs l = false := by
  unfold fewSs
  rw [List.all_eq_false.2 ⟨l[k], List.getElem_mem hk, by simpa using h⟩]; rfl
theorem fewSs_end (l : List Stp) (h : ∀ (j : Nat) (hj : j < l.length), fewS l[j] = true) : fewSs l = decide (l.length ≤ 40) := by
  unfold fewSs
  rw [List.all_eq_true.2 (fun c hc => by obtain ⟨j, hj, rfl⟩ := List.mem_iff_getElem.1 hc; exact h j hj)]
  simp
set_option maxRecDepth 100000 in
set_option maxHeartbeats 4000000 in
theorem Few14_any (l : List Stp) (v : Value) (S : Nat → Prop) (w0 : World) (hd : Deep StpR w0 S 4 v l) (hf : ∀ s ∈ l, s.fits) :
    Calls Tryz.prog 7 #[v] w0 fun e w' => e = .returned (.bool (fewSs l)) ∧ Turns [] w0 w' := by
  obtain ⟨A, c, rfl, hc1, hc2, _⟩ := hd.form
  obtain ⟨n, hn⟩ : ∃ n, n = l.length := ⟨_, rfl⟩
  have hn9 : n ≤ 9223372036854775807 := by unfold maxLen at hc2; omega
  have HD := Lib.hid (And.intro hd (And.intro hf hn))
  rw [← hn]
  clear hd hf hc1 hc2 hn
  go_enter Tryz.func7, Tryz.ntmps7
  go_wp2_with fail
  go_loopw [3] (fun i wr => ∃ k : Nat, k ≤ n ∧ i = .int .i64 k ∧ (∀ (j : Nat) (hj : j < l.length), j < k → fewS l[j] = true) ∧ Turns [] w0 wr) (fun i _ => n - (intOf i).toNat)
  case atStart => exact ⟨0, by omega, rfl, fun j hj h => absurd h (by omega), Turns.refl _ _⟩
  case round =>
    obtain ⟨k, hk, rfl, hall, tw⟩ := hrel
    by_cases hlt : k < n
    · have hki : (k : Int) < (n : Int) := by omega
      have hkl : k < l.length := by have := HD.out.2.2; omega
      obtain ⟨b0, off, cc, cs, hv, _, hb0, hcl, rg0, hR0⟩ := HD.out.1.at_ (by omega) k hkl
      injection hv with e1 e2 e3
      subst e1 e3
      clear e2
      have rg := rangeV tw rg0
      have hR := StpR.lasts.keep hR0 (tw.keeps0 S)
      clear rg0 hR0
      have hck := HD.out.2.1 _ (List.getElem_mem hkl)
      have hbad := fewSs_bad l k hkl
      have hgood : fewS l[k] = true → ∀ (j : Nat) (hj : j < l.length), j < k + 1 → fewS l[j] = true := fun h j hj hjk => by
        by_cases e : j = k
        · subst e; exact h
        · exact hall j hj (by omega)
      obtain ⟨s, hs⟩ : ∃ s, s = l[k] := ⟨_, rfl⟩
      rw [← hs] at hR hck hbad hgood
      obtain ⟨rv, rfl, hsl⟩ := hR
      obtain ⟨Ar, cr, rfl, _⟩ := hsl.form'
      have q2 := rg 2 _ rfl
      have q3 := rg 3 _ rfl
      have hts : s.name.size ≤ 9223372036854775807 := by have := hck.name; unfold maxLen at this; omega
      have FE := Lib.hid (FewVs_any s.v Ar s.v.length cr wr.heap.size wr hck.v hsl.sl (Nat.le_refl _))
      have HBG := Lib.hid (And.intro hbad (And.intro hgood tw))
      clear rg hck hbad hgood hs hsl hcl hb0 hkl hall tw
      by_cases h30 : 30 < s.name.size
      · have h30i : (30 : Int) < (s.name.size : Int) := by omega
        have hfx := Lib.hid (HBG.out.1 (by unfold fewS; rw [decide_eq_false (by omega)]; rfl))
        go_wp2_with fail
        go_ret
        rw [hfx.out]
        exact ⟨rfl, HBG.out.2.2⟩
      have h30i : ¬ (30 : Int) < (s.name.size : Int) := by omega
      go_wp2_with fail
      refine FE.out.mono ?_
      rintro e x2 ⟨rfl, t2⟩
      have HT := Lib.hid (HBG.out.2.2.trans t2 (by simp))
      clear t2 q2 q3 FE
      cases hfew : fewVs s.v
      · have hfx := Lib.hid (HBG.out.1 (by unfold fewS; rw [hfew]; simp))
        go_wp2_with fail
        go_ret
        rw [hfx.out]
        exact ⟨rfl, HT.out⟩
      · have hfx := Lib.hid (HBG.out.2.1 (by unfold fewS; rw [hfew, decide_eq_true (by omega)]; rfl))
        go_wp2_with fail
        go_roundw
        case rel => exact ⟨k + 1, by omega, by go_num, hfx.out, HT.out⟩
        case measure => (simp [intOf] <;> omega)
    · obtain rfl : k = n := by omega
      have hf := Lib.hid (fewSs_end l (fun j hj => hall j hj (by have := HD.out.2.2; omega)))
      have HT := Lib.hid tw
      clear hall tw
      by_cases h40 : k ≤ 40
      · have x : decide ((k : Int) ≤ 40) = true := decide_eq_true (by omega)
        go_wp2_with fail
        go_ret
        rw [hf.out, decide_eq_true (by have := HD.out.2.2; omega)]
        exact ⟨rfl, HT.out⟩
      · have x : decide ((k : Int) ≤ 40) = false := decide_eq_false (by omega)
        go_wp2_with fail
        go_ret
        rw [hf.out, decide_eq_false (by have := HD.out.2.2; omega)]
        exact ⟨rfl, HT.out⟩

/-- A ledger of steps. -/
def stepL (L : Led) (s : Stp) : Led := if s.n % 4 = 3 then (if L.opn.length = 0 then L else closeL L) else addLed L (stCs s)
def bldK (l : List Stp) (k : Nat) : Led := (l.take k).foldl stepL led0
def bldL (l : List Stp) : Led := l.foldl stepL led0
theorem bldK_step (l : List Stp) (k : Nat) (hk : k < l.length) : bldK l (k + 1) = stepL (bldK l k) l[k] := by
  unfold bldK
  rw [List.take_succ_eq_append_getElem hk, List.foldl_append]
  rfl
theorem stepL_inv {L : Led} (h : Inv L) (hn : L.next ≤ 9998) {s : Stp} (hs : (stCs s).length ≤ 1000 ∧ ∀ x ∈ stCs s, x.ok) : Inv (stepL L s) ∧ (stepL L s).next ≤ L.next + 1 := by
  unfold stepL
  split
  · split
    · exact ⟨h, by omega⟩
    · exact ⟨h.close (by omega) (by omega), by show L.next ≤ _; omega⟩
  · exact ⟨h.add hs hn, by rw [addLed_next]; omega⟩
theorem bldK_inv' (l : List Stp) (hf : ∀ s ∈ l, s.fits) (hall : ∀ s ∈ l, fewS s = true) (hl : l.length ≤ 1000) : ∀ k, k ≤ l.length → Inv (bldK l k) ∧ (bldK l k).next ≤ k
  | 0, _ => ⟨inv0, by show (0 : Int) ≤ 0; omega⟩
  | k + 1, h => by
    obtain ⟨h1, h2⟩ := bldK_inv' l hf hall hl k (by omega)
    have hm := List.getElem_mem (show k < l.length by omega)
    have := stepL_inv h1 (by omega) (stCs_ok (hf _ hm) (hall _ hm))
    rw [bldK_step l k (by omega)]
    exact ⟨this.1, by omega⟩
theorem fewSs_all' {l : List Stp} (h : fewSs l = true) : (∀ s ∈ l, fewS s = true) ∧ l.length ≤ 40 := by
  unfold fewSs at h
  simpa only [Bool.and_eq_true, List.all_eq_true, decide_eq_true_eq] using h
theorem bldK_inv (l : List Stp) (hf : ∀ s ∈ l, s.fits) (hfew : fewSs l = true) (k : Nat) (hk : k ≤ l.length) : Inv (bldK l k) ∧ (bldK l k).next ≤ k :=
  bldK_inv' l hf (fewSs_all' hfew).1 (by have := (fewSs_all' hfew).2; omega) k hk
theorem bldL_eq (l : List Stp) : bldL l = bldK l l.length := by unfold bldL bldK; rw [List.take_length]

set_option maxRecDepth 100000 in
set_option maxHeartbeats 4000000 in
theorem RClose_none (L : Led) (hL : L.ok) (hne : L.opn = []) (ov bv tv : Value) (S : Nat → Prop) (w0 : World) (hd : LedR w0 S ov bv tv L) :
    Calls Tryz.prog 11 #[.agg #[.int .i64 L.next, ov, bv, tv]] w0 fun e w' => e = .returned (.tuple #[.agg #[.int .i64 L.next, ov, bv, tv], .int .i64 2]) ∧ Turns [] w0 w' := by
  have hn0 := Lib.hid (show L.opn.length = 0 by rw [hne]; rfl)
  obtain ⟨Ao, co, rfl, _⟩ := hd.opn.form
  obtain ⟨Ab, cb, rfl, _⟩ := hd.blks.form'
  obtain ⟨At, ct, rfl, _⟩ := hd.txs.form
  obtain ⟨nb, hnb⟩ : ∃ n, n = L.blks.length := ⟨_, rfl⟩
  obtain ⟨nO, hnO⟩ : ∃ n, n = L.opn.length := ⟨_, rfl⟩
  obtain ⟨nT, hnT⟩ : ∃ n, n = L.txs.length := ⟨_, rfl⟩
  have hb1 : nb ≤ 100000 := by rw [hnb]; exact hL.blks
  have hb2 : nO ≤ 1000 := by rw [hnO]; exact hL.opn
  have hb3 : nT ≤ 100000 := by rw [hnT]; exact hL.txs
  have HNN := Lib.hid (And.intro hnb (And.intro hnO hnT))
  have HD := Lib.hid (And.intro hd trivial)
  rw [← hnb, ← hnO, ← hnT]
  obtain ⟨p, hp⟩ : ∃ p, p = w0.heap.size := ⟨_, rfl⟩
  obtain ⟨w, hw⟩ : ∃ x, x = w0.alloc (.cells #[.int .i64 L.next, .slice Ao nO co, .slice Ab nb cb, .slice At nT ct] 32) := ⟨_, rfl⟩
  have bc := Blk.new w0 [.int .i64 L.next, .slice Ao nO co, .slice Ab nb cb, .slice At nT ct] 32
  have t0 := (Turns.refl [] w0).alloc (.cells #[.int .i64 L.next, .slice Ao nO co, .slice Ab nb cb, .slice At nT ct] 32)
  have hs0 : w.heap.size = w0.heap.size + 1 := by rw [hw]; simp
  rw [show w0.alloc (.cells [.int .i64 L.next, .slice Ao nO co, .slice Ab nb cb, .slice At nT ct].toArray 32) = w from hw.symm, ← hp] at bc
  rw [← hw] at t0
  obtain ⟨q, hq⟩ : ∃ p, p = w.heap.size := ⟨_, rfl⟩
  obtain ⟨w1, hw1⟩ : ∃ x, x = w.alloc (.cells #[.int .i64 0, .slice none 0 0, .slice none 0 0, .slice none 0 0] 32) := ⟨_, rfl⟩
  have bq := Blk.new w [.int .i64 0, .slice none 0 0, .slice none 0 0, .slice none 0 0] 32
  have t1 := (Turns.refl [] w).alloc (.cells #[.int .i64 0, .slice none 0 0, .slice none 0 0, .slice none 0 0] 32)
  have hs1 : w1.heap.size = w.heap.size + 1 := by rw [hw1]; simp
  rw [show w.alloc (.cells [.int .i64 0, .slice none 0 0, .slice none 0 0, .slice none 0 0].toArray 32) = w1 from hw1.symm, ← hq] at bq
  rw [← hw1] at t1
  have bp1 := bc.turns t1 (by simp)
  have c1 := bp1.cell 1
  have c2 := bp1.cell 2
  simp only [List.getElem?_cons_zero, List.getElem?_cons_succ] at c1 c2
  have HPB := Lib.hid bp1
  have HT0 := Lib.hid (t0.trans t1 (by simp))
  have HW := Lib.hid (And.intro hw hw1)
  have HP := Lib.hid (And.intro hp (show p + 1 = q by omega))
  have HQB := Lib.hid (And.intro bq (show w0.heap.size ≤ q ∧ q < w1.heap.size ∧ w0.heap.size ≤ p ∧ p < q by omega))
  have HL := Lib.hid hL
  clear bc t0 hw hw1 hp hq hs0 hs1 hd bq t1 bp1 hL hnb hnO hnT
  have hni : ((nO : Int) == 0) = true := beq_iff_eq.2 (by have := hn0.out; have := HNN.out.2.1; omega)
  clear hne
  have r1 := HPB.out.all
  have hz1 := size_rled (.int .i64 L.next) (.slice Ao nO co) (.slice Ab nb cb) (.slice At nT ct)
  go_enter Tryz.func11, Tryz.ntmps11
  go_upto_region 1 with fail
  rw [← HW.out.1, ← HW.out.2, ← HP.out.1, HP.out.2]
  go_wp2_with (first
    | (refine wpList_load_mid rfl 32 (.tmp 1) rfl p 0 rfl _ _ r1 Tryz.underlying32 rfl hz1 ?_)
    | (refine wpList_store_blk rfl 32 (.tmp 2) (.tmp 9) rfl q (by kernel_rfl) [.int .i64 L.next, .slice Ao nO co, .slice Ab nb cb, .slice At nT ct] _ 32 (by kernel_rfl) HQB.out.1 rfl hz1 (by intro u hu; simp at hu; rcases hu with rfl | rfl | rfl | rfl <;> rfl) (fun w9 hb9 ht9 hs9 => ?_); have HQ9 := Lib.hid (And.intro hb9 ht9); clear hb9 ht9 hs9)
    | fail)
  refine bodyPost_ret (results_two rfl _ _ q _ _ _ (.int .i64 2) (by kernel_rfl) (by kernel_rfl) HQ9.out.1 Tryz.underlying32 rfl (by rw [List.size_toArray]; exact hz1)) rfl ?_
  exact ⟨rfl, HT0.out.trans HQ9.out.2 (by intro x hx; simp at hx; have := HQB.out.2; exact .inr (by omega))⟩

def BldR (l : List Stp) (x3 wr : World) (p3 k : Nat) : Prop := ∃ ov bv tv, Blk wr p3 [.int .i64 (bldK l k).next, ov, bv, tv] 32 ∧ LedR wr (fun b => b ≠ p3 ∧ b + 1 ≠ p3) ov bv tv (bldK l k) ∧ Turns [p3] x3 wr
set_option maxRecDepth 100000 in
set_option maxHeartbeats 16000000 in
theorem Build_all (l : List Stp) (v : Value) (S : Nat → Prop) (w0 : World) (hd : Deep StpR w0 S 4 v l) (hf : ∀ s ∈ l, s.fits) (hall : ∀ s ∈ l, fewS s = true) (hl100 : l.length ≤ 100) :
    Calls Tryz.prog 21 #[v] w0 fun e w' => ∃ ov bv tv, e = .returned (.agg #[.int .i64 (bldL l).next, ov, bv, tv]) ∧ LedR w' (fun _ => True) ov bv tv (bldL l) ∧ Turns [] w0 w' := by
  obtain ⟨A, c, rfl, _⟩ := hd.form
  obtain ⟨n, hn⟩ : ∃ n, n = l.length := ⟨_, rfl⟩
  have hl40 : n ≤ 100 := by omega
  have HI := Lib.hid (And.intro (bldK_inv' l hf hall (by omega)) (And.intro hall hn))
  have HD := Lib.hid (And.intro hd hf)
  obtain ⟨q, hq⟩ : ∃ x, x = w0.heap.size := ⟨_, rfl⟩
  obtain ⟨w, hw⟩ : ∃ x, x = w0.alloc (.cells #[.int .i64 0, .slice none 0 0, .slice none 0 0, .slice none 0 0] 32) := ⟨_, rfl⟩
  have bq := Blk.new w0 [.int .i64 0, .slice none 0 0, .slice none 0 0, .slice none 0 0] 32
  rw [show w0.alloc (.cells [.int .i64 0, .slice none 0 0, .slice none 0 0, .slice none 0 0].toArray 32) = w from hw.symm, ← hq] at bq
  have hs0 : w.heap.size = q + 1 := by rw [hw, hq]; simp
  have t0 : Turns [] w0 w := by rw [hw]; exact (Turns.refl _ _).alloc _
  obtain ⟨x3, hx3⟩ : ∃ x, x = w.alloc (.cells #[.int .i64 0, .slice none 0 0, .slice none 0 0, .slice none 0 0] 32) := ⟨_, rfl⟩
  have b3 := Blk.new w [.int .i64 0, .slice none 0 0, .slice none 0 0, .slice none 0 0] 32
  rw [show w.alloc (.cells [.int .i64 0, .slice none 0 0, .slice none 0 0, .slice none 0 0].toArray 32) = x3 from hx3.symm, hs0] at b3
  have t3 : Turns [] w x3 := by rw [hx3]; exact (Turns.refl _ _).alloc _
  have HK0 := Lib.hid (show BldR l x3 x3 (q + 1) 0 from ⟨_, _, _, b3, LedR.zero, Turns.refl _ _⟩)
  have HX := Lib.hid (And.intro hq (And.intro hw (And.intro hx3 hs0)))
  have H3 := Lib.hid (And.intro (bq.turns t3 (by simp)) (And.intro (t0.trans t3 (by simp)) b3.lt))
  rw [← hn]
  clear hq hw bq hs0 t0 hx3 b3 t3 hd hf hall hl100 hn
  go_enter Tryz.func21, Tryz.ntmps21
  go_upto_region 2 with fail
  rw [← HX.out.2.1, ← HX.out.1, ← HX.out.2.2.1]
  obtain ⟨p3, hp3⟩ : ∃ x, x = q + 1 := ⟨_, rfl⟩
  rw [← hp3] at HK0 H3 ⊢
  have HP3 := Lib.hid hp3
  clear hp3
  go_wp2_with fail
  go_loopw [4] (fun i wr => ∃ k : Nat, k ≤ n ∧ i = .int .i64 k ∧ BldR l x3 wr p3 k) (fun i _ => n - (intOf i).toNat)
  case atStart => exact ⟨0, by omega, rfl, HK0.out⟩
  case round =>
    obtain ⟨k, hk, rfl, ov, bv, tv, bk, lk, tk⟩ := hrel
    obtain ⟨A1, c1, rfl, _⟩ := lk.opn.form
    obtain ⟨A2, c2, rfl, _⟩ := lk.blks.form'
    obtain ⟨A3, c3, rfl, _⟩ := lk.txs.form
    have tw : Turns [] w0 wr := H3.out.2.1.trans tk (by intro x hx; simp at hx; exact .inr (by have := HP3.out; have := HX.out.1; omega))
    have hinv := HI.out.1 k (by have := HI.out.2.2; omega)
    have r1 := bk.all
    have hz1 := size_rled (.int .i64 (bldK l k).next) (.slice A1 (bldK l k).opn.length c1) (.slice A2 (bldK l k).blks.length c2) (.slice A3 (bldK l k).txs.length c3)
    by_cases hlt : k < n
    · have hki : (k : Int) < (n : Int) := by omega
      have hkl : k < l.length := by have := HI.out.2.2; omega
      obtain ⟨b0, off, cc, cs, hv, _, hb0, hcl, rg0, hR0⟩ := HD.out.1.at_ (by omega) k hkl
      injection hv with e1 e2 e3
      subst e1 e3
      clear e2
      have rg := rangeV tw rg0
      have hR := StpR.lasts.keep hR0 (tw.keeps0 S)
      clear rg0 hR0
      have hck := HD.out.2 _ (List.getElem_mem hkl)
      have hfs := HI.out.2.1 _ (List.getElem_mem hkl)
      have hstep := bldK_step l k hkl
      obtain ⟨s, hs⟩ : ∃ s, s = l[k] := ⟨_, rfl⟩
      rw [← hs] at hR hck hfs hstep
      obtain ⟨rv, rfl, hsl⟩ := hR
      obtain ⟨Ar, cr, rfl, _⟩ := hsl.form'
      have q0 := rg 0 _ rfl
      rw [Nat.add_zero] at q0
      have WI := Lib.hid (fun W => within14_any s.n 4 W hck.n.1 hck.n.2 (by omega) (by omega))
      have HK := Lib.hid (And.intro bk (And.intro lk (And.intro tk (And.intro tw (And.intro hinv (And.intro hck (And.intro hfs hsl)))))))
      have HST := Lib.hid hstep
      have HRG := Lib.hid rg
      have hz4 := size_stp s.n s.op s.name (.slice Ar s.v.length cr)
      clear bk lk tk tw hinv hck hfs hsl hstep rg hs hcl hb0 hkl
      go_wp2_with fail
      refine (WI.out wr).mono ?_
      rintro e wr' ⟨rfl, rfl⟩
      by_cases h3 : s.n % 4 = 3
      · have h3b : (s.n % 4 == 3) = true := beq_iff_eq.2 h3
        have CL : Calls Tryz.prog 11 #[.agg #[.int .i64 (bldK l k).next, .slice A1 (bldK l k).opn.length c1, .slice A2 (bldK l k).blks.length c2, .slice A3 (bldK l k).txs.length c3]] wr fun e w' => ∃ (ov' bv' tv' : Value) (er : Int), e = .returned (.tuple #[.agg #[.int .i64 (bldK l (k + 1)).next, ov', bv', tv'], .int .i64 er]) ∧ LedR w' (fun b => b ≠ p3 ∧ b + 1 ≠ p3) ov' bv' tv' (bldK l (k + 1)) ∧ Turns [] wr w' := by
          have hst := HST.out
          unfold stepL at hst
          rw [if_pos h3] at hst
          by_cases h0 : (bldK l k).opn.length = 0
          · rw [if_pos h0] at hst
            rw [hst]
            exact (RClose_none (bldK l k) HK.out.2.2.2.2.1.1.ok (List.eq_nil_of_length_eq_zero h0) _ _ _ _ wr HK.out.2.1).mono fun e w' ⟨he, ht⟩ => ⟨_, _, _, 2, he, HK.out.2.1.keep (ht.keeps0 _), ht⟩
          · rw [if_neg h0] at hst
            rw [hst]
            exact (RClose_any (bldK l k) HK.out.2.2.2.2.1.1.ok (by omega) _ _ _ _ wr HK.out.2.1).mono fun e w' ⟨a, b, c, he, hl, ht⟩ => ⟨a, b, c, 0, he, hl.mono (fun j _ hj => by
              rcases hj with hj | hj
              · exact hj
              · have := HK.out.1.lt; omega), ht⟩
        have HCL := Lib.hid CL
        clear CL h3 q0
        go_wp2_with (first
          | (refine wpList_load_mid rfl 32 (.tmp 3) rfl p3 0 rfl _ _ r1 Tryz.underlying32 rfl hz1 ?_)
          | fail)
        refine HCL.out.mono ?_
        rintro e x7 ⟨ov', bv', tv', er, rfl, l7, t7⟩
        obtain ⟨A7, c7, rfl, _⟩ := l7.opn.form
        obtain ⟨A8, c8, rfl, _⟩ := l7.blks.form'
        obtain ⟨A9, c9, rfl, _⟩ := l7.txs.form
        have hz7 := size_rled (.int .i64 (bldK l (k + 1)).next) (.slice A7 (bldK l (k + 1)).opn.length c7) (.slice A8 (bldK l (k + 1)).blks.length c8) (.slice A9 (bldK l (k + 1)).txs.length c9)
        have HB7 := Lib.hid (And.intro (HK.out.1.turns t7 (by simp)) (And.intro l7 t7))
        clear l7 t7 HCL r1
        go_wp2_with (first
          | (refine wpList_store_blk rfl 32 (.tmp 3) (.tmp 22) rfl p3 (by kernel_rfl) [.int .i64 (bldK l (k + 1)).next, .slice A7 (bldK l (k + 1)).opn.length c7, .slice A8 (bldK l (k + 1)).blks.length c8, .slice A9 (bldK l (k + 1)).txs.length c9] _ 32 (by kernel_rfl) HB7.out.1 rfl hz7 (by intro u hu; simp at hu; rcases hu with rfl | rfl | rfl | rfl <;> rfl) (fun w9 hb9 ht9 hs9 => ?_); have HQ9 := Lib.hid (And.intro hb9 ht9); clear hb9 ht9 hs9)
          | fail)
        have HKN := Lib.hid (show BldR l x3 w9 p3 (k + 1) from ⟨_, _, _, HQ9.out.1, HB7.out.2.1.keep (HQ9.out.2.keepsB _ (by intro x hx _ h; simp at hx; exact h.1 hx)), (HK.out.2.2.1.trans HB7.out.2.2 (by simp)).trans HQ9.out.2 (fun x hx => .inl hx)⟩)
        go_roundw
        case rel => exact ⟨k + 1, by omega, by go_num, HKN.out⟩
        case measure => (simp [intOf] <;> omega)
      · have h3b : (s.n % 4 == 3) = false := beq_eq_false_iff_ne.2 h3
        have hadd : bldK l (k + 1) = addLed (bldK l k) (stCs s) := by rw [HST.out]; unfold stepL; rw [if_neg h3]
        have HADD := Lib.hid hadd
        obtain ⟨Y, hY⟩ : ∃ q, q = wr.drew := ⟨_, rfl⟩
        have tY : Turns [] wr Y := by rw [hY]; exact (Turns.refl _ _).drew
        have HYY := Lib.hid hY
        have R1 := rangeV tY r1
        have RG := rangeV tY HRG.out
        have HTY := Lib.hid tY
        have S0 : Turns [] Y Y := Turns.refl _ _
        clear h3 hadd hY tY q0 r1
        go_upto_region 7 with fail
        refine rk0 (fun _ => True) (fun W => Turns [] Y W) 10 11 ?_
        rw [← HYY.out]
        refine rkW 0 25 1 rfl (yieldsIf_load_mid (by rfl) _ _ rfl p3 0 (by rfl) _ _ (fun W hS => rangeV hS.2 R1) Tryz.underlying32 rfl hz1) (.mk' trivial S0) ?_
        try simp only [sI, sS, sZ]
        refine rkA 1 26 3 (v := ?_) ?_ (.mk' trivial S0) ?_
        rotate_left
        · intro W hS; go_simp; all_goals with_reducible rfl
        try simp only [sI, sS, sZ]
        refine rkA 2 27 7 (v := ?_) ?_ (.mk' trivial S0) ?_
        rotate_left
        · intro W hS; go_simp; all_goals with_reducible rfl
        try simp only [sI, sS, sZ]
        refine rkA 3 28 15 (v := ?_) ?_ (.mk' trivial S0) ?_
        rotate_left
        · intro W hS; go_simp; all_goals with_reducible rfl
        try simp only [sI, sS, sZ]
        refine rkW 4 29 31 rfl (yieldsIf_load_mid (by rfl) _ _ rfl b0 (off + k * 4) (by rfl) _ _ (fun W hS => rangeV hS.2 RG) Tryz.underlying37 rfl hz4) (.mk' trivial S0) ?_
        try simp only [sI, sS, sZ]
        refine rk1 5 63 (fun K hK => ?_)
        go_simp
        refine (Changes_any s HK.out.2.2.2.2.2.1 HK.out.2.2.2.2.2.2.1 (.slice Ar s.v.length cr) S Y (HK.out.2.2.2.2.2.2.2.keep (HTY.out.keeps0 S))).mono ?_
        rintro e X30 ⟨A30, c30, rfl, d30, D30⟩
        refine hK _ _ (.mk' trivial D30) ?_
        clear hK K
        try simp only [sI, sS, sZ]
        refine rk1 6 127 (fun K hK => ?_)
        go_simp
        refine (RAdd_any (bldK l k) HK.out.2.2.2.2.1.1.ok (by have h := HK.out.2.2.2.2.1.1.room (by have := HK.out.2.2.2.2.1.2; omega); exact ⟨h.1, HK.out.2.2.2.2.1.1.o3, h.2.2⟩) (stCs s) (stCs_ok HK.out.2.2.2.2.2.1 HK.out.2.2.2.2.2.2.1) _ _ _ _ (fun b => b ≠ p3 ∧ b + 1 ≠ p3) X30 ((HK.out.2.1.keep (HTY.out.keeps0 _)).keep (D30.keeps0 _)) (d30.mono ChgR.lasts (fun j _ hj => by have := HK.out.1.lt; have := HTY.out.size; omega))).mono ?_
        rintro e X31 ⟨ov', bv', tv', cv', rfl, l7, d7, D31⟩
        rw [← HADD.out] at l7 ⊢
        obtain ⟨A7, c7, rfl, _⟩ := l7.opn.form
        obtain ⟨A8, c8, rfl, _⟩ := l7.blks.form'
        obtain ⟨A9, c9, rfl, _⟩ := l7.txs.form
        have hz7 := size_rled (.int .i64 (bldK l (k + 1)).next) (.slice A7 (bldK l (k + 1)).opn.length c7) (.slice A8 (bldK l (k + 1)).blks.length c8) (.slice A9 (bldK l (k + 1)).txs.length c9)
        have DD := D30.trans D31 (by simp)
        refine hK _ _ (.mk' trivial DD) ?_
        clear hK K
        try simp only [sI, sS, sZ]
        refine rkA 7 24 255 (v := ?_) ?_ (.mk' trivial DD) ?_
        rotate_left
        · intro W hS; go_simp; all_goals with_reducible rfl
        try simp only [sI, sS, sZ]
        refine rkA 8 32 511 (v := ?_) ?_ (.mk' trivial DD) ?_
        rotate_left
        · intro W hS; go_simp; all_goals with_reducible rfl
        try simp only [sI, sS, sZ]
        refine rkA 9 33 1023 (v := ?_) ?_ (.mk' trivial DD) ?_
        rotate_left
        · intro W hS; go_simp; all_goals with_reducible rfl
        try simp only [sI, sS, sZ]
        refine rk1 10 2047 (fun K hK => ?_)
        refine wp_store_blk 32 _ _ (by rfl) p3 (by rfl) [.int .i64 (bldK l (k + 1)).next, .slice A7 (bldK l (k + 1)).opn.length c7, .slice A8 (bldK l (k + 1)).blks.length c8, .slice A9 (bldK l (k + 1)).txs.length c9] _ 32 (by rfl) ((HK.out.1.turns HTY.out (by simp)).turns DD (by simp)) rfl hz7 (by intro u hu; simp at hu; rcases hu with rfl | rfl | rfl | rfl <;> rfl) (fun X61 hb61 ht61 => ?_)
        have HKN := Lib.hid (show BldR l x3 X61 p3 (k + 1) from ⟨_, _, _, hb61, (l7.mono (S' := fun b => b ≠ p3 ∧ b + 1 ≠ p3) (fun j _ hj => by
          rcases hj with hj | hj
          · exact hj
          · have := HK.out.1.lt; have := HTY.out.size; have := D30.size; omega)).keep (ht61.keepsB _ (by intro x hx _ h; simp at hx; exact h.1 hx)), (HK.out.2.2.1.trans (HTY.out.trans DD (by simp)) (by simp)).trans ht61 (fun x hx => .inl hx)⟩)
        refine hK _ _ (.p trivial) ?_
        clear hK K
        try simp only [sI, sS, sZ]
        refine rkZ ?_
        go_wp2_with fail
        go_roundw
        case rel => exact ⟨k + 1, by omega, by go_num, HKN.out⟩
        case measure => (simp [intOf] <;> omega)
    · obtain rfl : k = n := by omega
      have hkb : bldK l k = bldL l := by rw [bldL_eq, ← HI.out.2.2]
      have hpq := HP3.out
      have HBQ := Lib.hid (H3.out.1.turns tk (by simp; omega))
      have HF := Lib.hid (And.intro lk (And.intro tw (And.intro hkb bk.lt)))
      clear bk lk tk tw hinv hkb
      go_wp2_with (first
        | (refine wpList_load_mid rfl 32 (.tmp 3) rfl p3 0 rfl _ _ r1 Tryz.underlying32 rfl hz1 ?_)
        | (refine wpList_store_blk rfl 32 (.tmp 2) (.tmp 34) rfl q (by kernel_rfl) [.int .i64 (bldK l k).next, .slice A1 (bldK l k).opn.length c1, .slice A2 (bldK l k).blks.length c2, .slice A3 (bldK l k).txs.length c3] _ 32 (by kernel_rfl) HBQ.out rfl hz1 (by intro u hu; simp at hu; rcases hu with rfl | rfl | rfl | rfl <;> rfl) (fun w9 hb9 ht9 hs9 => ?_); have HQ9 := Lib.hid (And.intro hb9 ht9); clear hb9 ht9 hs9)
        | fail)
      refine bodyPost_ret (results_cell_row rfl _ _ q _ _ _ _ (by kernel_rfl) HQ9.out.1 Tryz.underlying32 rfl (by rw [List.size_toArray]; exact hz1)) rfl ?_
      have hq0 := HX.out.1
      refine ⟨_, _, _, by rw [← HF.out.2.2.1], ?_, HF.out.2.1.trans HQ9.out.2 (by intro x hx; simp at hx; exact .inr (by omega))⟩
      rw [← HF.out.2.2.1]
      exact (HF.out.1.keep (HQ9.out.2.keepsB _ (by intro x hx _ h; simp at hx; omega))).mono (fun _ _ _ => trivial)
theorem Build_any (l : List Stp) (v : Value) (S : Nat → Prop) (w0 : World) (hd : Deep StpR w0 S 4 v l) (hf : ∀ s ∈ l, s.fits) (hfew : fewSs l = true) :
    Calls Tryz.prog 21 #[v] w0 fun e w' => ∃ ov bv tv, e = .returned (.agg #[.int .i64 (bldL l).next, ov, bv, tv]) ∧ LedR w' (fun _ => True) ov bv tv (bldL l) ∧ Turns [] w0 w' :=
  Build_all l v S w0 hd hf (fewSs_all' hfew).1 (by have := (fewSs_all' hfew).2; omega)
end Go.Proofs.YtoahnhphfabajaaGreat
