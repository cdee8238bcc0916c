/- LedgerSums, walked. -/
import Derived.Test.YtoahnhphfabajaaLdQ
namespace Go.Proofs.Ytoahnhphfabajaa
open Go.RowKit
set_option linter.unusedVariables false
set_option maxRecDepth 10000
set_option linter.unusedSimpArgs false
set_option linter.unnecessarySimpa false

set_option maxRecDepth 100000 in
theorem built_rblo4 (b : Blo) (h : b.ok) : Try.prog.built 39 [(0, .int .i64 b.n), (1, .agg (bvs b.prev).toArray), (2, .agg (bvs b.root).toArray), (3, .int .i64 b.cnt)] = some b.cells.toArray := by
  obtain ⟨n, p, r, c⟩ := b
  obtain ⟨h1, h2⟩ := h
  simp only at h1 h2
  match p, h1, r, h2 with
  | [a0, a1, a2, a3, a4, a5, a6, a7, a8, a9, a10, a11, a12, a13, a14, a15, a16, a17, a18, a19, a20, a21, a22, a23, a24, a25, a26, a27, a28, a29, a30, a31], _, [b0, b1, b2, b3, b4, b5, b6, b7, b8, b9, b10, b11, b12, b13, b14, b15, b16, b17, b18, b19, b20, b21, b22, b23, b24, b25, b26, b27, b28, b29, b30, b31], _ => show _ = _; kernel_rfl
/-- One element more, the row still one's own: the elements lie in blocks that were there. -/
theorem DeepO.push' {α : Type} {R : World → (Nat → Prop) → List Value → α → Prop} {w : World} {S : Nat → Prop} {size base : Nat} {e : TypeId} {v : Value} {l : List α} (hR : Lasts R) {t : TypeId} {z : Value} {bytes : Nat} (T : SliceTy Try.prog t e z size bytes) (h : DeepO R w S size base e v l) {cs : List Value} {x : α} (hx : R w S cs x) (hcs : cs.length = size) (h1 : ∀ u ∈ cs, u.oneCell' = true)
    (hb : base ≤ w.heap.size) (hl : l.length ≤ 100000) (hown : ∀ k, v.ownBlock = some k → ¬ S k) (ty : TypeId) (hbs : bytes ≤ 100 ∧ size ≤ 100) :
    ∃ A' c' w', (Builtin.append_ #[t, t] ty #[v, .slice (some ⟨w.heap.size, 0, none⟩) 1 1]).run Try.prog (w.alloc (.cells cs.toArray e)) = .ok (.slice A' (l.length + 1) c') w' ∧
      DeepO R w' S size base e (.slice A' (l.length + 1) c') (l ++ [x]) ∧ Turns v.ownBlock.toList w w' ∧ (∀ k, (Value.slice A' (l.length + 1) c').ownBlock = some k → v.ownBlock = some k ∨ w.heap.size ≤ k) := by
  obtain ⟨css, g1, g2, g3, g4⟩ := h
  have ho := g4.alloc (.cells cs.toArray e)
  obtain ⟨v', w', hr, ap⟩ := run_append_rd (P := Try.prog) _ T ty ho (Sl.new w cs.toArray e 1 size (by simp [hcs]) (by simp [maxLen])) (by simpa using h1) (by simp only [maxLen]; omega) (by have := Nat.mul_le_mul (show l.length + 1 ≤ 100001 by omega) hbs.1; omega) (by simp; omega)
  have t2 : Turns v.ownBlock.toList w w' := Turns.trans (L' := v.ownBlock.toList) ((Turns.refl _ w).alloc _) (Turns.of_grown ap.grown (by intro k hk; exact .inl (by simpa using hk))) (fun k hk => .inl hk)
  have hlen : css.flatten ++ cs = (css ++ [cs]).flatten := by simp
  have hown' := ap.own
  rw [show cs.toArray.toList = cs by simp, hlen] at hown'
  obtain ⟨A', c', rfl⟩ := own_formV hown'
  have kp : Keeps S w w' := t2.keepsB S (fun k hk _ => hown k (by simpa using hk))
  refine ⟨A', c', w', hr, ⟨css ++ [cs], by simp [g1], fun c hc => ?_, fun i hi hi' => ?_, by simpa using hown'⟩, t2, fun k hk => ?_⟩
  · rcases List.mem_append.1 hc with hc | hc
    · exact g2 c hc
    · simp at hc; subst hc; exact hcs
  · by_cases hil : i < l.length
    · have e1 : (css ++ [cs])[i] = css[i]'(by omega) := List.getElem_append_left (by omega)
      have e2 : (l ++ [x])[i] = l[i] := List.getElem_append_left hil
      rw [e1, e2]
      exact hR.keep (g3 i hil (by omega)) kp
    · obtain rfl : i = l.length := by simp at hi; omega
      have e1 : (css ++ [cs])[l.length]'hi' = cs := by rw [List.getElem_append_right (by omega)]; simp [g1]
      have e2 : (l ++ [x])[l.length]'hi = x := by simp
      rw [e1, e2]
      exact hR.keep hx kp
  · rcases ap.lies with h | ⟨g, hg, hge⟩
    · exact .inl (by rw [← h]; exact hk)
    · rw [hg] at hk
      injection hk with hk
      subst hk
      simp at hge
      exact .inr (by omega)
theorem DeepO.nil {α : Type} {R : World → (Nat → Prop) → List Value → α → Prop} {w : World} {S : Nat → Prop} {size base : Nat} {e : TypeId} : DeepO R w S size base e (.slice none 0 0) [] :=
  ⟨[], rfl, by simp, fun i h _ => by simp at h, World.ownsRow_nil _ _ _ _⟩

/-- A change made good; whether it is not too much. -/
def gchg (c : Chg) : Chg := ⟨c.table, c.op, c.row.map gval⟩
def fewC (c : Chg) : Bool := fewVs c.row && decide (c.table.size ≤ 50)
theorem gchg_ok {c : Chg} (h : c.fits) (hf : fewC c = true) : (gchg c).ok := by
  unfold fewC at hf
  simp only [Bool.and_eq_true, decide_eq_true_eq] at hf
  have h1 := fewVs_len hf.1
  refine ⟨?_, h.op, ?_, ?_⟩
  · show c.table.size ≤ 1000; omega
  · show (c.row.map gval).length ≤ 100; rw [List.length_map]; omega
  · intro v hv
    obtain ⟨x, hx, rfl⟩ := List.mem_map.1 hv
    exact gval_fits x (h.row x hx)
def SumR (w1 wr : World) (p9 : Nat) (t : Txn) (k : Nat) : Prop := ∃ uv, Blk wr p9 [.int .i64 t.id, uv] 24 ∧ DeepO ChgR wr (SX w1.heap.size wr.heap.size [uv, PV p9]) 3 w1.heap.size 33 uv ((t.chs.map gchg).take k) ∧ Turns [] w1 wr ∧ uv.ownBlock ≠ some p9 ∧ ∀ (j : Nat) (h : j < t.chs.length), j < k → fewC t.chs[j] = true

theorem below_of' {w w' : World} (t : Turns [] w w') : Below w.heap.size w w' := t.below (Nat.le_refl _) (by simp)
set_option maxRecDepth 100000 in
set_option maxHeartbeats 16000000 in
theorem LedgerSums_walk (t : Txn) (cv : Value) (tx seq : Int) (b : Blo) (w0 : World) (hd : Deep ChgR w0 (fun _ => True) 3 cv t.chs) (hid : i64ok t.id) (hcf : ∀ c ∈ t.chs, c.fits) (hb : b.ok) :
    Calls Try.prog 3 #[.agg #[.int .i64 t.id, cv], .int .i64 tx, .int .i64 seq, .agg b.cells.toArray] w0 fun e w' => e = .returned (.bool true) ∧ Below w0.heap.size w0 w' := by
  obtain ⟨A, cp, rfl, hcp, hcm, _⟩ := hd.form
  obtain ⟨p, hp⟩ : ∃ p, p = w0.heap.size := ⟨_, rfl⟩
  obtain ⟨w, hw⟩ : ∃ x, x = w0.alloc (.cells #[.int .i64 t.id, .slice A t.chs.length cp] 24) := ⟨_, rfl⟩
  have bc := Blk.new w0 [.int .i64 t.id, .slice A t.chs.length cp] 24
  have t0 := (Turns.refl [] w0).alloc (.cells #[.int .i64 t.id, .slice A t.chs.length cp] 24)
  have hs0 : w.heap.size = w0.heap.size + 1 := by rw [hw]; simp
  rw [show w0.alloc (.cells [.int .i64 t.id, .slice A t.chs.length cp].toArray 24) = w from hw.symm, ← hp] at bc
  rw [← hw] at t0
  obtain ⟨bs, hbs⟩ : ∃ c, c = b.cells := ⟨_, rfl⟩
  rw [← hbs]
  obtain ⟨q, hq⟩ : ∃ p, p = w.heap.size := ⟨_, rfl⟩
  obtain ⟨w1, hw1⟩ : ∃ x, x = w.alloc (.cells bs.toArray 28) := ⟨_, rfl⟩
  have bq := Blk.new w bs 28
  have t1 := (Turns.refl [] w).alloc (.cells bs.toArray 28)
  have hs1 : w1.heap.size = w.heap.size + 1 := by rw [hw1]; simp
  rw [← hw1, ← hq] at bq
  rw [← hw1] at t1
  obtain ⟨n, hn⟩ : ∃ n, n = t.chs.length := ⟨_, rfl⟩
  have hn9 : n ≤ 9223372036854775807 := by unfold maxLen at hcm; omega
  have HN := Lib.hid hn
  have HBS := Lib.hid hbs
  have HW := Lib.hid (And.intro hw hw1)
  have HP := Lib.hid (And.intro hp (show p + 1 = q by omega))
  have HBP := Lib.hid (bc.turns t1 (by simp))
  have HBQ := Lib.hid bq
  have t01 := t0.trans t1 (by simp)
  have HT0 := Lib.hid t01
  have HD := Lib.hid (And.intro hd hcf)
  have HB := Lib.hid hb
  have HS := Lib.hid (show w0.heap.size ≤ p ∧ p < w1.heap.size ∧ w0.heap.size ≤ q ∧ q < w1.heap.size by omega)
  have KN := Lib.hid (known14_any w1)
  clear bc t0 hw hw1 hp hq hs0 hs1 hd bq t1 t01 hcf hb hbs hcp hcm
  rw [← HN.out] at HW HBP
  clear hn
  rw [← HN.out]
  go_enter Try.func3, Try.ntmps3
  go_upto_region 1 with fail
  rw [← HW.out.1, ← HW.out.2, ← HP.out.1, HP.out.2]
  go_wp2_with fail
  refine KN.out.mono ?_
  rintro e w2 ⟨rfl, t2⟩
  have c1 := (HBP.out.turns t2 (by simp)).cell 1
  have c0 := (HBP.out.turns t2 (by simp)).cell 0
  simp only [List.getElem?_cons_zero, List.getElem?_cons_succ] at c0 c1
  have H2 := Lib.hid t2
  clear t2 KN
  by_cases h20 : 20 < n
  · have h20i : (20 : Int) < (n : Int) := by omega
    go_wp2_with fail
    go_ret
    exact ⟨rfl, below_of' (HT0.out.trans H2.out (by simp))⟩
  have h20i : ¬ (20 : Int) < (n : Int) := by omega
  obtain ⟨p9, hp9⟩ : ∃ x, x = w2.heap.size := ⟨_, rfl⟩
  obtain ⟨x3, hx3⟩ : ∃ x, x = w2.alloc (.cells #[.int .i64 t.id, .slice none 0 0] 24) := ⟨_, rfl⟩
  have b9 := Blk.new w2 [.int .i64 t.id, .slice none 0 0] 24
  rw [show w2.alloc (.cells [.int .i64 t.id, .slice none 0 0].toArray 24) = x3 from hx3.symm, ← hp9] at b9
  have t3 : Turns [] w2 x3 := by rw [hx3]; exact (Turns.refl _ _).alloc _
  have HR0 := Lib.hid (show SumR w2 x3 p9 t 0 from ⟨_, b9, DeepO.nil, t3, by simp [Value.ownBlock], fun j _ h => by omega⟩)
  have HX3 := Lib.hid hx3
  have HP9 := Lib.hid hp9
  clear b9 t3 hx3 hp9
  go_upto_region 6 with fail
  rw [← HX3.out, ← HP9.out]
  clear c0 c1
  go_wp2_with fail
  go_loopw [10, 11] (fun i y wr => ∃ k : Nat, k ≤ n ∧ i = .int .i64 k ∧ SumR w2 wr p9 t k) (fun i _ _ => n - (intOf i).toNat)
  case atStart => exact ⟨0, by omega, rfl, HR0.out⟩
  case round =>
    obtain ⟨k, hk, rfl, uv, b9, du, tr, hu9, hall⟩ := hrel
    have tw : Turns [] w1 wr := H2.out.trans tr (by simp)
    have bp := HBP.out.turns tw (by simp)
    have c1 := bp.cell 1
    simp only [List.getElem?_cons_zero, List.getElem?_cons_succ] at c1
    by_cases hlt : k < n
    · have hki : (k : Int) < (n : Int) := by omega
      have hkl : k < t.chs.length := by have := HN.out; omega
      obtain ⟨b0, off, cc, cs, hv, _, hb0, hcl, rg0, hR0⟩ := HD.out.1.at_ (by omega) k hkl
      injection hv with e1 e2 e3
      subst e1 e3
      clear e2
      have rg := rangeV (HT0.out.trans tw (by simp)) rg0
      have hR := hR0.on (HT0.out.trans tw (by simp))
      clear rg0 hR0
      have hck := HD.out.2 _ (List.getElem_mem hkl)
      have hst : (t.chs.map gchg).take (k + 1) = (t.chs.map gchg).take k ++ [gchg t.chs[k]] := by rw [List.take_succ_eq_append_getElem (by simpa using hkl)]; simp
      have hnew : fewC t.chs[k] = true → ∀ (j : Nat) (h : j < t.chs.length), j < k + 1 → fewC t.chs[j] = true := fun h j hj hjk => by
        by_cases e : j = k
        · subst e; exact h
        · exact hall j hj (by omega)
      obtain ⟨c, hc⟩ : ∃ c, c = t.chs[k] := ⟨_, rfl⟩
      rw [← hc] at hR hck hst hnew
      obtain ⟨rv, rfl, hsl⟩ := hR
      obtain ⟨Ar, cr, rfl, hcr, hcrm, _⟩ := hsl.form'
      have hz1 := size_chg c.table c.op (.slice Ar c.row.length cr)
      have q0 := rg 0 _ rfl
      have q2 := rg 2 _ rfl
      rw [Nat.add_zero] at q0
      have FE := Lib.hid (FewVs_any c.row Ar c.row.length cr wr.heap.size wr hck.row hsl.sl (Nat.le_refl _))
      have hts : c.table.size ≤ 9223372036854775807 := by have := hck.table; unfold maxLen at this; omega
      have HCK := Lib.hid hck
      have HST := Lib.hid hst
      have HNEW := Lib.hid hnew
      have HSL := Lib.hid hsl
      have HU := Lib.hid (And.intro b9 (And.intro du (And.intro tr hu9)))
      have HRG := Lib.hid rg
      have HTW := Lib.hid (HT0.out.trans tw (by simp))
      clear b9 du tr hu9 hall rg hck hst hnew hc hsl hcl hb0 hkl bp tw hcr hcrm
      go_wp2_with fail
      refine FE.out.mono ?_
      rintro e x2 ⟨rfl, t2⟩
      have q0 := cellV t2 q0
      have c1 := cellV t2 c1
      cases hfew : fewVs c.row
      · have hfx := Lib.hid (below_of' (HTW.out.trans t2 (by simp)))
        clear t2
        go_wp2_with fail
        go_ret
        exact ⟨rfl, hfx.out⟩
      by_cases h50 : 50 < c.table.size
      · have h50i : (50 : Int) < (c.table.size : Int) := by omega
        have hfx := Lib.hid (below_of' (HTW.out.trans t2 (by simp)))
        clear t2
        go_wp2_with fail
        go_ret
        exact ⟨rfl, hfx.out⟩
      have h50i : ¬ (50 : Int) < (c.table.size : Int) := by omega
      have hfc : fewC c = true := by unfold fewC; rw [hfew]; simp; omega
      have HNW := Lib.hid (HNEW.out hfc)
      have HOK := Lib.hid (gchg_ok HCK.out hfc)
      have rg := rangeV t2 HRG.out
      obtain ⟨X1, hX1⟩ : ∃ X1, X1 = x2.alloc (.cells #[.string c.table, .int .i64 c.op, .slice Ar c.row.length cr] 33) := ⟨_, rfl⟩
      have b5 := Blk.new x2 [.string c.table, .int .i64 c.op, .slice Ar c.row.length cr] 33
      rw [show x2.alloc (.cells [.string c.table, .int .i64 c.op, .slice Ar c.row.length cr].toArray 33) = X1 from hX1.symm] at b5
      obtain ⟨p5, hp5⟩ : ∃ q, q = x2.heap.size := ⟨_, rfl⟩
      rw [← hp5] at b5
      have tX : Turns [] x2 X1 := by rw [hX1]; exact (Turns.refl _ _).alloc _
      have hX1s : X1.heap.size = p5 + 1 := by rw [hX1, hp5]; simp
      have c52 := b5.cell 2
      simp only [List.getElem?_cons_zero, List.getElem?_cons_succ] at c52
      have t02 := t2.trans tX (by simp)
      have GD := Lib.hid (Good5_any c.row Ar c.row.length cr wr.heap.size X1 HCK.out.row ((t02.slice HSL.out.sl (Nat.le_refl _) (by simp))) t02.size (by have := fewVs_len hfew; omega))
      have HX1 := Lib.hid hX1
      have HP5 := Lib.hid (And.intro hp5 hX1s)
      have H5 := Lib.hid (And.intro b5 (And.intro t02 t2))
      clear b5 tX t02 t2 hX1 hp5 hX1s hfc FE q2
      go_upto_region 12 with (first
        | (refine wpList_load_mid rfl 33 (.tmp 49) rfl b0 (off + k * 3) (by kernel_rfl) _ _ rg Try.underlying33 rfl hz1 ?_)
        | fail)
      rw [← HX1.out, ← HP5.out.1]
      go_wp2_with fail
      refine GD.out.mono ?_
      rintro e x3 ⟨A20, c20, rfl, o20, t20⟩
      have b53 := H5.out.1.turns t20 (by simp)
      have k52 := b53.cell 2
      have z52 := b53.free 2
      simp only [List.getElem?_cons_zero, List.getElem?_cons_succ] at k52
      obtain ⟨x4, hx4⟩ : ∃ x, x = x3.setCell ⟨p5, 2, none⟩ (.slice A20 c.row.length c20) := ⟨_, rfl⟩
      have b54 : Blk x4 p5 [.string c.table, .int .i64 c.op, .slice A20 c.row.length c20] 33 := by rw [hx4]; exact b53.set 2 _
      have t34 : Turns [p5] x3 x4 := by rw [hx4]; exact (Turns.refl _ _).setCell (.inl (by simp)) _
      have hp5 := HP5.out
      have hsw := H5.out.2.2.size
      have h12 := t20.size
      have tr4 : Turns [] wr x4 := (H5.out.2.1.trans t20 (by simp)).trans t34 (by intro x hx; simp at hx; exact .inr (by omega))
      have hu := HU.out
      obtain ⟨Au, cu, huv⟩ := hu.2.1.form
      have htl : ((t.chs.map gchg).take k).length = k := by rw [List.length_take, List.length_map, ← HN.out]; omega
      rw [htl] at huv
      subst huv
      have hult : ∀ j, (Value.slice Au k cu).ownBlock = some j → w2.heap.size ≤ j ∧ j < wr.heap.size := fun j hj => hu.2.1.lt j hj
      have h9w := hu.1.lt
      have h29 := HP9.out
      have hw2 := hu.2.2.1.size
      have du4 := (hu.2.1.keep ChgR.lasts tr4 (by simp) (by simp)).mono ChgR.lasts (S' := SX w2.heap.size x4.heap.size [.slice Au k cu, PV p9]) (fun j hj hj' => ⟨hj'.1, hj, hj'.2.2⟩) (Nat.le_refl _)
      have sl4 : SlS x4 (SX w2.heap.size x4.heap.size [.slice Au k cu, PV p9]) 3 (.slice A20 c.row.length c20) (gchg c).row.length (valCells (gchg c).row) := by
        have e1 : (gchg c).row.length = c.row.length := by simp [gchg]
        rw [e1]
        exact ((SlS.of_own (S := fun j => X1.heap.size ≤ j) o20 (fun j hj => (o20.lt j hj).1)).keep (t34.keepsB _ (by intro x hx _; simp at hx; omega))).mono (fun j hj hj' => ⟨by omega, hj, fun v hv e => by
          simp only [List.mem_cons, List.not_mem_nil, or_false] at hv
          rcases hv with rfl | rfl
          · have := hult j e; omega
          · simp [PV, Value.ownBlock] at e; omega⟩)
      obtain ⟨A9, c9, x5, hr5, du5, t5, l5⟩ := du4.push' ChgR.lasts TChg (cs := [.string c.table, .int .i64 c.op, .slice A20 c.row.length c20]) (x := gchg c) ⟨_, rfl, sl4⟩ rfl (by intro u hu; simp at hu; rcases hu with rfl | rfl | rfl <;> rfl) (by have := tr4.size; omega) (by rw [htl]; omega) (fun j hj => SX_not (v := .slice Au k cu) (by simp) hj) 22 (by omega)
      rw [htl] at hr5 du5 l5
      rw [← HST.out] at du5
      have b94 := hu.1.turns tr4 (by simp)
      have k91 := b94.cell 1
      simp only [List.getElem?_cons_zero, List.getElem?_cons_succ] at k91
      have h9n : p9 ∉ (Value.slice Au k cu).ownBlock.toList := fun hm => hu.2.2.2 (by simpa using hm)
      have b95 := b94.turns t5 h9n
      have k95 := b95.cell 1
      have z95 := b95.free 1
      simp only [List.getElem?_cons_zero, List.getElem?_cons_succ] at k95
      obtain ⟨x6, hx6⟩ : ∃ x, x = x5.setCell ⟨p9, 1, none⟩ (.slice A9 (k + 1) c9) := ⟨_, rfl⟩
      have b96 : Blk x6 p9 [.int .i64 t.id, .slice A9 (k + 1) c9] 24 := by rw [hx6]; exact b95.set 1 _
      have t56 : Turns [p9] x5 x6 := by rw [hx6]; exact (Turns.refl _ _).setCell (.inl (by simp)) _
      have h5n : p5 ∉ (Value.slice Au k cu).ownBlock.toList := fun hm => by have := hult p5 (by simpa using hm); omega
      have b56 := (b54.turns t5 h5n).turns t56 (by simp; omega)
      have sl6 : SlS x6 (fun j => X1.heap.size ≤ j) 3 (.slice A20 c.row.length c20) (gchg c).row.length (valCells (gchg c).row) := by
        have e1 : (gchg c).row.length = c.row.length := by simp [gchg]
        rw [e1]
        exact (((SlS.of_own (S := fun j => X1.heap.size ≤ j) o20 (fun j hj => (o20.lt j hj).1)).keep (t34.keepsB _ (by intro x hx _; simp at hx; omega))).keep (t5.keepsB _ (by intro x hx _ h; have := hult x (by simpa using hx); omega))).keep (t56.keepsB _ (by intro x hx _; simp at hx; omega))
      have du6 : DeepO ChgR x6 (SX w2.heap.size x6.heap.size [.slice A9 (k + 1) c9, PV p9]) 3 w2.heap.size 33 (.slice A9 (k + 1) c9) ((t.chs.map gchg).take (k + 1)) := by
        have h56 := t56.size
        have h45 := t5.size
        refine (du5.keep ChgR.lasts t56 (by intro x hx _ h; simp at hx; exact h.2.2 (PV p9) (by simp) (by rw [hx]; rfl)) (by
          intro x hx e
          simp at hx
          have h4s := tr4.size
          rcases l5 x e with h | h
          · exact hu.2.2.2 (by rw [h, hx])
          · omega)).mono ChgR.lasts (fun j hj hj' => ⟨hj'.1, hj, fun v hv e => ?_⟩) (Nat.le_refl _)
        simp only [List.mem_cons, List.not_mem_nil, or_false] at hv
        rcases hv with rfl | rfl
        · rcases l5 j e with h | h
          · exact hj'.2.2 (.slice Au k cu) (by simp) h
          · have := hj'.2.1; omega
        · exact hj'.2.2 _ (by simp) e
      have t26 : Turns [] w2 x6 := ((hu.2.2.1.trans tr4 (by simp)).trans t5 (fun x hx => .inr (hult x (by simpa using hx)).1)).trans t56 (by intro x hx; simp at hx; exact .inr (by omega))
      have h96 : (Value.slice A9 (k + 1) c9).ownBlock ≠ some p9 := by
        intro e
        rcases l5 p9 e with h | h
        · exact hu.2.2.2 h
        · have := tr4.size; omega
      obtain ⟨Y, hY⟩ : ∃ x, x = x6.drew := ⟨_, rfl⟩
      have tY : Turns [] x6 Y := by rw [hY]; exact (Turns.refl _ _).drew
      have HYY := Lib.hid hY
      have HX4 := Lib.hid hx4
      have HX6 := Lib.hid hx6
      have R54 := b54.all
      have RY := (b56.turns tY (by simp)).all
      have hz2 := size_chg c.table c.op (.slice A20 c.row.length c20)
      have HE := Lib.hid (And.intro (sl6.keep (tY.keeps0 _)) (And.intro b96 (And.intro du6 (And.intro t26 (And.intro tY h96)))))
      have eqc := eqlS (chgSum tx seq (gchg c)) (chgSum_len _ _ _)
      have S0 : Turns [] Y Y := Turns.refl _ _
      clear b53 b54 t34 hp5 hsw h12 tr4 hu htl hult h9w h29 hw2 du4 sl4 du5 t5 l5 b94 h9n b95 b96 t56 h5n b56 sl6 du6 t26 h96 hY tY hx4 hx6 o20 t20 GD c52 rg q0
      go_upto_region 13 with fail
      rw [← HX4.out]
      go_upto_region 14 with (first
        | (refine wpList_load_mid rfl 33 (.tmp 11) rfl p5 0 rfl _ _ R54 Try.underlying33 rfl hz2 ?_)
        | (at_builtin; refine wpList_append_at rfl (.tmp 56) (.tmp 58) rfl hr5 rfl rfl ?_)
        | fail)
      rw [← HX6.out]
      clear hr5 R54 k91 k95 z95 k52 z52
      refine reg_begin (fun W => Turns [] Y W) (fun _ => True) 9 9 #[false, false, false, false, false, false, false, false, false] (by kernel_rfl) (by kernel_rfl) (by kernel_rfl) ?_
      rw [← HYY.out]
      refine reg_take 0 61 8 #[true, false, false, false, false, false, false, false, false] (by rfl) (v := ?_) rfl rfl (by kernel_rfl) (by kernel_rfl) (by kernel_rfl) (by kernel_rfl) (fun _ _ _ h => h) (by rfl) ?_ (Till.mk' S0 trivial) ?_
      rotate_left
      · intro W hS; go_simp; all_goals with_reducible rfl
      try simp only [List.setIfInBounds_toArray, List.set_cons_succ, List.set_cons_zero]
      refine reg_take 1 62 7 #[true, true, false, false, false, false, false, false, false] (by rfl) (v := ?_) rfl rfl (by kernel_rfl) (by kernel_rfl) (by kernel_rfl) (by kernel_rfl) (fun _ _ _ h => h) (by rfl) ?_ (Till.mk' S0 trivial) ?_
      rotate_left
      · intro W hS; go_simp; all_goals with_reducible rfl
      try simp only [List.setIfInBounds_toArray, List.set_cons_succ, List.set_cons_zero]
      refine reg_take_y 2 63 6 #[true, true, true, false, false, false, false, false, false] (by rfl) rfl rfl (by kernel_rfl) (by kernel_rfl) (by kernel_rfl) (by kernel_rfl) (fun _ _ _ h => h) (yieldsIf_load_mid (by rfl) _ _ rfl p5 0 (by rfl) _ _ (fun W hS => rangeV hS RY) Try.underlying33 rfl hz2) (Till.mk' S0 trivial) ?_
      try simp only [List.setIfInBounds_toArray, List.set_cons_succ, List.set_cons_zero]
      refine reg_take 4 65 5 #[true, true, true, false, true, false, false, false, false] (by rfl) (v := ?_) rfl rfl (by kernel_rfl) (by kernel_rfl) (by kernel_rfl) (by kernel_rfl) (fun _ _ _ h => h) (by rfl) ?_ (Till.mk' S0 trivial) ?_
      rotate_left
      · intro W hS; go_simp; all_goals with_reducible rfl
      try simp only [List.setIfInBounds_toArray, List.set_cons_succ, List.set_cons_zero]
      refine reg_take 5 66 4 #[true, true, true, false, true, true, false, false, false] (by rfl) (v := ?_) rfl rfl (by kernel_rfl) (by kernel_rfl) (by kernel_rfl) (by kernel_rfl) (fun _ _ _ h => h) (by rfl) ?_ (Till.mk' S0 trivial) ?_
      rotate_left
      · intro W hS; go_simp; all_goals with_reducible rfl
      try simp only [List.setIfInBounds_toArray, List.set_cons_succ, List.set_cons_zero]
      refine reg_take_y 6 67 3 #[true, true, true, false, true, true, true, false, false] (by rfl) rfl rfl (by kernel_rfl) (by kernel_rfl) (by kernel_rfl) (by kernel_rfl) (fun _ _ _ h => h) (yieldsIf_load_mid (by rfl) _ _ rfl p5 0 (by rfl) _ _ (fun W hS => rangeV hS RY) Try.underlying33 rfl hz2) (Till.mk' S0 trivial) ?_
      try simp only [List.setIfInBounds_toArray, List.set_cons_succ, List.set_cons_zero]
      refine reg_one 3 2 #[true, true, true, true, true, true, true, false, false] (by kernel_rfl) rfl (by rfl) (by kernel_rfl) (fun K hK => ?_)
      go_simp
      refine (CRow_any tx seq (gchg c) HOK.out (.slice A20 c.row.length c20) Y HE.out.1.sl).mono ?_
      rintro e X64 ⟨rfl, D64⟩
      refine hK _ _ (Till.mk' ((Turns.refl [] Y).trans D64 (by simp)) trivial) ?_
      clear hK K
      try simp only [List.setIfInBounds_toArray, List.set_cons_succ, List.set_cons_zero]
      refine reg_one 7 1 #[true, true, true, true, true, true, true, true, false] (by kernel_rfl) rfl (by rfl) (by kernel_rfl) (fun K hK => ?_)
      go_simp
      refine (RRow_any tx seq (gchg c) HOK.out (.slice A20 c.row.length c20) X64 ((D64.slice HE.out.1.sl (Nat.le_refl _) (by simp)).more D64.size)).mono ?_
      rintro e X68 ⟨rfl, D68⟩
      refine hK _ _ (Till.mk' (((Turns.refl [] Y).trans D64 (by simp)).trans D68 (by simp)) trivial) ?_
      clear hK K
      try simp only [List.setIfInBounds_toArray, List.set_cons_succ, List.set_cons_zero]
      refine reg_take 8 69 0 #[true, true, true, true, true, true, true, true, true] (by rfl) (v := ?_) rfl rfl (by kernel_rfl) (by kernel_rfl) (by kernel_rfl) (by kernel_rfl) (fun _ _ _ h => h) (by rfl) ?_ (Till.mk' (((Turns.refl [] Y).trans D64 (by simp)).trans D68 (by simp)) trivial) ?_
      rotate_left
      · intro W hS; go_simp; all_goals with_reducible rfl
      try simp only [List.setIfInBounds_toArray, List.set_cons_succ, List.set_cons_zero]
      refine reg_done (by kernel_rfl) ?_ _
      have HX := Lib.hid (And.intro D64 D68)
      clear D64 D68
      clear S0 RY eqc
      go_wp2_with fail
      have HFIN := Lib.hid (show SumR w2 X68 p9 t (k + 1) by
        obtain ⟨_, b96, du6, t26, tY, h96⟩ := HE.out
        have tt := tY.trans (HX.out.1.trans HX.out.2 (by simp)) (by simp)
        exact ⟨_, b96.turns tt (by simp), (du6.keep ChgR.lasts tt (by simp) (by simp)).mono ChgR.lasts (fun j hj hj' => ⟨hj'.1, hj, hj'.2.2⟩) (Nat.le_refl _), t26.trans tt (by simp), h96, HNW.out⟩)
      go_roundw
      case rel => exact ⟨k + 1, by omega, by go_num, HFIN.out⟩
      case measure => (simp [intOf] <;> omega)
    · obtain rfl : k = n := by omega
      rw [List.take_of_length_le (by rw [List.length_map, ← HN.out]; omega)] at du
      obtain ⟨Au, cu, rfl⟩ := du.form
      obtain ⟨U, hU⟩ : ∃ u : Txn, u = ⟨t.id, t.chs.map gchg⟩ := ⟨_, rfl⟩
      have hUok : U.ok := by
        rw [hU]
        refine ⟨hid, by show (t.chs.map gchg).length ≤ 1000; rw [List.length_map, ← HN.out]; omega, ?_⟩
        intro x hx
        obtain ⟨y, hy, rfl⟩ := List.mem_map.1 hx
        obtain ⟨j, hj, rfl⟩ := List.mem_iff_getElem.1 hy
        exact gchg_ok (HD.out.2 _ hy) (hall j hj (by have := HN.out; omega))
      have hlu : (t.chs.map gchg).length = k := by rw [List.length_map, ← HN.out]
      rw [hlu] at b9 du hu9
      obtain ⟨Y, hY⟩ : ∃ x, x = wr.drew := ⟨_, rfl⟩
      have tY : Turns [] wr Y := by rw [hY]; exact (Turns.refl _ _).drew
      have HYY := Lib.hid hY
      have twY := tw.trans tY (by simp)
      have dY : Deep ChgR Y (fun _ => True) 3 (.slice Au k cu) U.chs := by
        rw [hU]
        exact (du.deep ChgR.lasts (S' := fun _ => True) (fun _ _ _ => trivial) (fun _ _ => trivial)).keep ChgR.lasts (tY.keeps0 _)
      have hUi : t.id = U.id := by rw [hU]
      have R9 := (b9.turns tY (by simp)).all
      have hz9 := size_tx t.id (.slice Au k cu)
      have bqY := HBQ.out.turns twY (by simp)
      have RQ := bqY.all
      have hzq := size_blo bs (by rw [HBS.out]; exact Blo.cells_len HB.out)
      have C0 := (bqY.cell 0).trans (show bs[0]? = some (.int .i64 b.n) from HBS.out ▸ b.get0)
      have C65 := (bqY.cell 65).trans (show bs[65]? = some (.int .i64 b.cnt) from HBS.out ▸ Blo.get65 HB.out)
      have RP : Y.rangeAt q 1 (bvs b.prev) := fun j v hv => (bqY.cell (1 + j)).trans (HBS.out ▸ b.getP HB.out j v hv)
      have RR : Y.rangeAt q 33 (bvs b.root) := fun j v hv => (bqY.cell (33 + j)).trans (HBS.out ▸ b.getR HB.out j v hv)
      have hsp : (Try.prog.info? 26).map (·.size) = some (bvs b.prev).length := by rw [bvs_length, HB.out.prev]; exact size_hash
      have hsr : (Try.prog.info? 26).map (·.size) = some (bvs b.root).length := by rw [bvs_length, HB.out.root]; exact size_hash
      have eq1 := eqlS (txRoot U) (txRoot_len _)
      have eq2 := eqlS (entry U) (entry_len _)
      have eq3 := eqlS (bloH b) (bloH_len _)
      have HUO := Lib.hid (And.intro hUok (And.intro dY hUi))
      have HT9 := Lib.hid (HT0.out.trans twY (by simp))
      have HBB := Lib.hid (built_rblo4 b HB.out)
      have S0 : Turns [] Y Y := Turns.refl _ _
      clear b9 du tr hu9 hall tw bp hU hUok hlu hY tY twY dY hUi bqY hlt hk
      go_upto_region 16 with fail
      refine reg_begin (fun W => Turns [] Y W) (fun _ => True) 28 28 #[false, false, false, false, false, false, false, false, false, false, false, false, false, false, false, false, false, false, false, false, false, false, false, false, false, false, false, false] (by kernel_rfl) (by kernel_rfl) (by kernel_rfl) ?_
      rw [← HYY.out]
      refine reg_take_y 0 70 27 #[true, false, false, false, false, false, false, false, false, false, false, false, false, false, false, false, false, false, false, false, false, false, false, false, false, false, false, false] (by rfl) rfl rfl (by kernel_rfl) (by kernel_rfl) (by kernel_rfl) (by kernel_rfl) (fun _ _ _ h => h) (yieldsIf_load_mid (by rfl) _ _ rfl p9 0 (by rfl) _ _ (fun W hS => rangeV hS R9) Try.underlying24 rfl hz9) (Till.mk' S0 trivial) ?_
      try simp only [List.setIfInBounds_toArray, List.set_cons_succ, List.set_cons_zero]
      refine reg_take_y 2 72 26 #[true, false, true, false, false, false, false, false, false, false, false, false, false, false, false, false, false, false, false, false, false, false, false, false, false, false, false, false] (by rfl) rfl rfl (by kernel_rfl) (by kernel_rfl) (by kernel_rfl) (by kernel_rfl) (fun _ _ _ h => h) (yieldsIf_load_mid (by rfl) _ _ rfl p9 0 (by rfl) _ _ (fun W hS => rangeV hS R9) Try.underlying24 rfl hz9) (Till.mk' S0 trivial) ?_
      try simp only [List.setIfInBounds_toArray, List.set_cons_succ, List.set_cons_zero]
      refine reg_one 1 25 #[true, true, true, false, false, false, false, false, false, false, false, false, false, false, false, false, false, false, false, false, false, false, false, false, false, false, false, false] (by kernel_rfl) rfl (by rfl) (by kernel_rfl) (fun K hK => ?_)
      go_simp
      refine ((HUO.out.2.2 ▸ CRoot_any U HUO.out.1 (.slice Au k cu) (fun _ => True) Y (HUO.out.2.1.keep ChgR.lasts ((Turns.refl [] Y).keeps0 _)) : Calls Try.prog _ #[.agg #[.int .i64 t.id, .slice Au k cu]] Y _)).mono ?_
      rintro e X71 ⟨rfl, D71⟩
      refine hK _ _ (Till.mk' ((Turns.refl [] Y).trans D71 (by simp)) trivial) ?_
      clear hK K
      try simp only [List.setIfInBounds_toArray, List.set_cons_succ, List.set_cons_zero]
      refine reg_one 3 24 #[true, true, true, true, false, false, false, false, false, false, false, false, false, false, false, false, false, false, false, false, false, false, false, false, false, false, false, false] (by kernel_rfl) rfl (by rfl) (by kernel_rfl) (fun K hK => ?_)
      go_simp
      refine ((HUO.out.2.2 ▸ RRoot_any U HUO.out.1 (.slice Au k cu) (fun _ => True) X71 (HUO.out.2.1.keep ChgR.lasts (((Turns.refl [] Y).trans D71 (by simp)).keeps0 _)) : Calls Try.prog _ #[.agg #[.int .i64 t.id, .slice Au k cu]] X71 _)).mono ?_
      rintro e X73 ⟨rfl, D73⟩
      refine hK _ _ (Till.mk' (((Turns.refl [] Y).trans D71 (by simp)).trans D73 (by simp)) trivial) ?_
      clear hK K
      try simp only [List.setIfInBounds_toArray, List.set_cons_succ, List.set_cons_zero]
      refine reg_take 4 74 23 #[true, true, true, true, true, false, false, false, false, false, false, false, false, false, false, false, false, false, false, false, false, false, false, false, false, false, false, false] (by rfl) (v := ?_) rfl rfl (by kernel_rfl) (by kernel_rfl) (by kernel_rfl) (by kernel_rfl) (fun _ _ _ h => h) (by rfl) ?_ (Till.mk' (((Turns.refl [] Y).trans D71 (by simp)).trans D73 (by simp)) trivial) ?_
      rotate_left
      · intro W hS; go_simp; all_goals with_reducible rfl
      try simp only [List.setIfInBounds_toArray, List.set_cons_succ, List.set_cons_zero]
      refine reg_take 5 75 22 #[true, true, true, true, true, true, false, false, false, false, false, false, false, false, false, false, false, false, false, false, false, false, false, false, false, false, false, false] (by rfl) (v := ?_) rfl rfl (by kernel_rfl) (by kernel_rfl) (by kernel_rfl) (by kernel_rfl) (fun _ _ _ h => h) (by rfl) ?_ (Till.mk' (((Turns.refl [] Y).trans D71 (by simp)).trans D73 (by simp)) trivial) ?_
      rotate_left
      · intro W hS; go_simp; all_goals with_reducible rfl
      try simp only [List.setIfInBounds_toArray, List.set_cons_succ, List.set_cons_zero]
      refine reg_take_y 6 76 21 #[true, true, true, true, true, true, true, false, false, false, false, false, false, false, false, false, false, false, false, false, false, false, false, false, false, false, false, false] (by rfl) rfl rfl (by kernel_rfl) (by kernel_rfl) (by kernel_rfl) (by kernel_rfl) (fun _ _ _ h => h) (yieldsIf_load_mid (by rfl) _ _ rfl p9 0 (by rfl) _ _ (fun W hS => rangeV hS R9) Try.underlying24 rfl hz9) (Till.mk' (((Turns.refl [] Y).trans D71 (by simp)).trans D73 (by simp)) trivial) ?_
      try simp only [List.setIfInBounds_toArray, List.set_cons_succ, List.set_cons_zero]
      refine reg_take_y 8 78 20 #[true, true, true, true, true, true, true, false, true, false, false, false, false, false, false, false, false, false, false, false, false, false, false, false, false, false, false, false] (by rfl) rfl rfl (by kernel_rfl) (by kernel_rfl) (by kernel_rfl) (by kernel_rfl) (fun _ _ _ h => h) (yieldsIf_load_mid (by rfl) _ _ rfl p9 0 (by rfl) _ _ (fun W hS => rangeV hS R9) Try.underlying24 rfl hz9) (Till.mk' (((Turns.refl [] Y).trans D71 (by simp)).trans D73 (by simp)) trivial) ?_
      try simp only [List.setIfInBounds_toArray, List.set_cons_succ, List.set_cons_zero]
      refine reg_one 7 19 #[true, true, true, true, true, true, true, true, true, false, false, false, false, false, false, false, false, false, false, false, false, false, false, false, false, false, false, false] (by kernel_rfl) rfl (by rfl) (by kernel_rfl) (fun K hK => ?_)
      go_simp
      refine ((HUO.out.2.2 ▸ CEntry_any U HUO.out.1 (.slice Au k cu) (fun _ => True) X73 (HUO.out.2.1.keep ChgR.lasts ((((Turns.refl [] Y).trans D71 (by simp)).trans D73 (by simp)).keeps0 _)) : Calls Try.prog _ #[.agg #[.int .i64 t.id, .slice Au k cu]] X73 _)).mono ?_
      rintro e X77 ⟨rfl, D77⟩
      refine hK _ _ (Till.mk' ((((Turns.refl [] Y).trans D71 (by simp)).trans D73 (by simp)).trans D77 (by simp)) trivial) ?_
      clear hK K
      try simp only [List.setIfInBounds_toArray, List.set_cons_succ, List.set_cons_zero]
      refine reg_one 9 18 #[true, true, true, true, true, true, true, true, true, true, false, false, false, false, false, false, false, false, false, false, false, false, false, false, false, false, false, false] (by kernel_rfl) rfl (by rfl) (by kernel_rfl) (fun K hK => ?_)
      go_simp
      refine ((HUO.out.2.2 ▸ REntry_any U HUO.out.1 (.slice Au k cu) (fun _ => True) X77 (HUO.out.2.1.keep ChgR.lasts (((((Turns.refl [] Y).trans D71 (by simp)).trans D73 (by simp)).trans D77 (by simp)).keeps0 _)) : Calls Try.prog _ #[.agg #[.int .i64 t.id, .slice Au k cu]] X77 _)).mono ?_
      rintro e X79 ⟨rfl, D79⟩
      refine hK _ _ (Till.mk' (((((Turns.refl [] Y).trans D71 (by simp)).trans D73 (by simp)).trans D77 (by simp)).trans D79 (by simp)) trivial) ?_
      clear hK K
      try simp only [List.setIfInBounds_toArray, List.set_cons_succ, List.set_cons_zero]
      refine reg_take 10 80 17 #[true, true, true, true, true, true, true, true, true, true, true, false, false, false, false, false, false, false, false, false, false, false, false, false, false, false, false, false] (by rfl) (v := ?_) rfl rfl (by kernel_rfl) (by kernel_rfl) (by kernel_rfl) (by kernel_rfl) (fun _ _ _ h => h) (by rfl) ?_ (Till.mk' (((((Turns.refl [] Y).trans D71 (by simp)).trans D73 (by simp)).trans D77 (by simp)).trans D79 (by simp)) trivial) ?_
      rotate_left
      · intro W hS; go_simp; all_goals with_reducible rfl
      try simp only [List.setIfInBounds_toArray, List.set_cons_succ, List.set_cons_zero]
      refine reg_take 11 81 16 #[true, true, true, true, true, true, true, true, true, true, true, true, false, false, false, false, false, false, false, false, false, false, false, false, false, false, false, false] (by rfl) (v := ?_) rfl rfl (by kernel_rfl) (by kernel_rfl) (by kernel_rfl) (by kernel_rfl) (fun _ _ _ h => h) (by rfl) ?_ (Till.mk' (((((Turns.refl [] Y).trans D71 (by simp)).trans D73 (by simp)).trans D77 (by simp)).trans D79 (by simp)) trivial) ?_
      rotate_left
      · intro W hS; go_simp; all_goals with_reducible rfl
      try simp only [List.setIfInBounds_toArray, List.set_cons_succ, List.set_cons_zero]
      refine reg_take 12 82 15 #[true, true, true, true, true, true, true, true, true, true, true, true, true, false, false, false, false, false, false, false, false, false, false, false, false, false, false, false] (by rfl) (v := ?_) rfl rfl (by kernel_rfl) (by kernel_rfl) (by kernel_rfl) (by kernel_rfl) (fun _ _ _ h => h) (by rfl) ?_ (Till.mk' (((((Turns.refl [] Y).trans D71 (by simp)).trans D73 (by simp)).trans D77 (by simp)).trans D79 (by simp)) trivial) ?_
      rotate_left
      · intro W hS; go_simp; all_goals with_reducible rfl
      try simp only [List.setIfInBounds_toArray, List.set_cons_succ, List.set_cons_zero]
      refine reg_take_y 13 83 14 #[true, true, true, true, true, true, true, true, true, true, true, true, true, true, false, false, false, false, false, false, false, false, false, false, false, false, false, false] (by rfl) rfl rfl (by kernel_rfl) (by kernel_rfl) (by kernel_rfl) (by kernel_rfl) (fun _ _ _ h => h) (yieldsIf_load_mid (by rfl) _ _ rfl q 0 (by rfl) bs _ (fun W hS => rangeV hS RQ) Try.underlying28 rfl hzq) (Till.mk' (((((Turns.refl [] Y).trans D71 (by simp)).trans D73 (by simp)).trans D77 (by simp)).trans D79 (by simp)) trivial) ?_
      try simp only [List.setIfInBounds_toArray, List.set_cons_succ, List.set_cons_zero]
      refine reg_take 15 85 13 #[true, true, true, true, true, true, true, true, true, true, true, true, true, true, false, true, false, false, false, false, false, false, false, false, false, false, false, false] (by rfl) (v := ?_) rfl rfl (by kernel_rfl) (by kernel_rfl) (by kernel_rfl) (by kernel_rfl) (fun _ _ _ h => h) (by rfl) ?_ (Till.mk' (((((Turns.refl [] Y).trans D71 (by simp)).trans D73 (by simp)).trans D77 (by simp)).trans D79 (by simp)) trivial) ?_
      rotate_left
      · intro W hS; go_simp; all_goals with_reducible rfl
      try simp only [List.setIfInBounds_toArray, List.set_cons_succ, List.set_cons_zero]
      refine reg_take 16 86 12 #[true, true, true, true, true, true, true, true, true, true, true, true, true, true, false, true, true, false, false, false, false, false, false, false, false, false, false, false] (by rfl) (v := ?_) rfl rfl (by kernel_rfl) (by kernel_rfl) (by kernel_rfl) (by kernel_rfl) (fun _ _ _ h => h) (by rfl) ?_ (Till.mk' (((((Turns.refl [] Y).trans D71 (by simp)).trans D73 (by simp)).trans D77 (by simp)).trans D79 (by simp)) trivial) ?_
      rotate_left
      · intro W hS; have c0 := cellL hS C0 (by simp); go_simp; all_goals with_reducible rfl
      try simp only [List.setIfInBounds_toArray, List.set_cons_succ, List.set_cons_zero]
      refine reg_take 17 87 11 #[true, true, true, true, true, true, true, true, true, true, true, true, true, true, false, true, true, true, false, false, false, false, false, false, false, false, false, false] (by rfl) (v := ?_) rfl rfl (by kernel_rfl) (by kernel_rfl) (by kernel_rfl) (by kernel_rfl) (fun _ _ _ h => h) (by rfl) ?_ (Till.mk' (((((Turns.refl [] Y).trans D71 (by simp)).trans D73 (by simp)).trans D77 (by simp)).trans D79 (by simp)) trivial) ?_
      rotate_left
      · intro W hS; go_simp; all_goals with_reducible rfl
      try simp only [List.setIfInBounds_toArray, List.set_cons_succ, List.set_cons_zero]
      refine reg_take_y 18 88 10 #[true, true, true, true, true, true, true, true, true, true, true, true, true, true, false, true, true, true, true, false, false, false, false, false, false, false, false, false] (by rfl) rfl rfl (by kernel_rfl) (by kernel_rfl) (by kernel_rfl) (by kernel_rfl) (fun _ _ _ h => h) (yieldsIf_load_mid (by rfl) _ _ rfl q 1 (by rfl) (bvs b.prev) _ (fun W hS => rangeV hS RP) Try.underlying26 rfl hsp) (Till.mk' (((((Turns.refl [] Y).trans D71 (by simp)).trans D73 (by simp)).trans D77 (by simp)).trans D79 (by simp)) trivial) ?_
      try simp only [List.setIfInBounds_toArray, List.set_cons_succ, List.set_cons_zero]
      refine reg_take 19 89 9 #[true, true, true, true, true, true, true, true, true, true, true, true, true, true, false, true, true, true, true, true, false, false, false, false, false, false, false, false] (by rfl) (v := ?_) rfl rfl (by kernel_rfl) (by kernel_rfl) (by kernel_rfl) (by kernel_rfl) (fun _ _ _ h => h) (by rfl) ?_ (Till.mk' (((((Turns.refl [] Y).trans D71 (by simp)).trans D73 (by simp)).trans D77 (by simp)).trans D79 (by simp)) trivial) ?_
      rotate_left
      · intro W hS; go_simp; all_goals with_reducible rfl
      try simp only [List.setIfInBounds_toArray, List.set_cons_succ, List.set_cons_zero]
      refine reg_take_y 20 90 8 #[true, true, true, true, true, true, true, true, true, true, true, true, true, true, false, true, true, true, true, true, true, false, false, false, false, false, false, false] (by rfl) rfl rfl (by kernel_rfl) (by kernel_rfl) (by kernel_rfl) (by kernel_rfl) (fun _ _ _ h => h) (yieldsIf_load_mid (by rfl) _ _ rfl q 33 (by rfl) (bvs b.root) _ (fun W hS => rangeV hS RR) Try.underlying26 rfl hsr) (Till.mk' (((((Turns.refl [] Y).trans D71 (by simp)).trans D73 (by simp)).trans D77 (by simp)).trans D79 (by simp)) trivial) ?_
      try simp only [List.setIfInBounds_toArray, List.set_cons_succ, List.set_cons_zero]
      refine reg_take 21 91 7 #[true, true, true, true, true, true, true, true, true, true, true, true, true, true, false, true, true, true, true, true, true, true, false, false, false, false, false, false] (by rfl) (v := ?_) rfl rfl (by kernel_rfl) (by kernel_rfl) (by kernel_rfl) (by kernel_rfl) (fun _ _ _ h => h) (by rfl) ?_ (Till.mk' (((((Turns.refl [] Y).trans D71 (by simp)).trans D73 (by simp)).trans D77 (by simp)).trans D79 (by simp)) trivial) ?_
      rotate_left
      · intro W hS; go_simp; all_goals with_reducible rfl
      try simp only [List.setIfInBounds_toArray, List.set_cons_succ, List.set_cons_zero]
      refine reg_take 22 92 6 #[true, true, true, true, true, true, true, true, true, true, true, true, true, true, false, true, true, true, true, true, true, true, true, false, false, false, false, false] (by rfl) (v := ?_) rfl rfl (by kernel_rfl) (by kernel_rfl) (by kernel_rfl) (by kernel_rfl) (fun _ _ _ h => h) (by rfl) ?_ (Till.mk' (((((Turns.refl [] Y).trans D71 (by simp)).trans D73 (by simp)).trans D77 (by simp)).trans D79 (by simp)) trivial) ?_
      rotate_left
      · intro W hS; have c0 := cellL hS C65 (by simp); go_simp; all_goals with_reducible rfl
      try simp only [List.setIfInBounds_toArray, List.set_cons_succ, List.set_cons_zero]
      refine reg_take_y 23 93 5 #[true, true, true, true, true, true, true, true, true, true, true, true, true, true, false, true, true, true, true, true, true, true, true, true, false, false, false, false] (by rfl) rfl rfl (by kernel_rfl) (by kernel_rfl) (by kernel_rfl) (by kernel_rfl) (fun _ _ _ h => h) (yieldsIf_build (by rfl) 39 _ (by rfl) b.cells.toArray (by have h := HBB.out; simpa [Act.eval] using h)) (Till.mk' (((((Turns.refl [] Y).trans D71 (by simp)).trans D73 (by simp)).trans D77 (by simp)).trans D79 (by simp)) trivial) ?_
      try simp only [List.setIfInBounds_toArray, List.set_cons_succ, List.set_cons_zero]
      refine reg_one 14 4 #[true, true, true, true, true, true, true, true, true, true, true, true, true, true, true, true, true, true, true, true, true, true, true, true, false, false, false, false] (by kernel_rfl) rfl (by rfl) (by kernel_rfl) (fun K hK => ?_)
      go_simp
      refine ((HBS.out ▸ CHash_any b HB.out X79 : Calls Try.prog _ #[.agg bs.toArray] X79 _)).mono ?_
      rintro e X84 ⟨rfl, D84⟩
      refine hK _ _ (Till.mk' ((((((Turns.refl [] Y).trans D71 (by simp)).trans D73 (by simp)).trans D77 (by simp)).trans D79 (by simp)).trans D84 (by simp)) trivial) ?_
      clear hK K
      try simp only [List.setIfInBounds_toArray, List.set_cons_succ, List.set_cons_zero]
      refine reg_one 24 3 #[true, true, true, true, true, true, true, true, true, true, true, true, true, true, true, true, true, true, true, true, true, true, true, true, true, false, false, false] (by kernel_rfl) rfl (by rfl) (by kernel_rfl) (fun K hK => ?_)
      go_simp
      refine (RHash_any b HB.out X84).mono ?_
      rintro e X94 ⟨rfl, D94⟩
      refine hK _ _ (Till.mk' (((((((Turns.refl [] Y).trans D71 (by simp)).trans D73 (by simp)).trans D77 (by simp)).trans D79 (by simp)).trans D84 (by simp)).trans D94 (by simp)) trivial) ?_
      clear hK K
      try simp only [List.setIfInBounds_toArray, List.set_cons_succ, List.set_cons_zero]
      refine reg_take 25 95 2 #[true, true, true, true, true, true, true, true, true, true, true, true, true, true, true, true, true, true, true, true, true, true, true, true, true, true, false, false] (by rfl) (v := ?_) rfl rfl (by kernel_rfl) (by kernel_rfl) (by kernel_rfl) (by kernel_rfl) (fun _ _ _ h => h) (by rfl) ?_ (Till.mk' (((((((Turns.refl [] Y).trans D71 (by simp)).trans D73 (by simp)).trans D77 (by simp)).trans D79 (by simp)).trans D84 (by simp)).trans D94 (by simp)) trivial) ?_
      rotate_left
      · intro W hS; go_simp; all_goals with_reducible rfl
      try simp only [List.setIfInBounds_toArray, List.set_cons_succ, List.set_cons_zero]
      refine reg_take 26 96 1 #[true, true, true, true, true, true, true, true, true, true, true, true, true, true, true, true, true, true, true, true, true, true, true, true, true, true, true, false] (by rfl) (v := ?_) rfl rfl (by kernel_rfl) (by kernel_rfl) (by kernel_rfl) (by kernel_rfl) (fun _ _ _ h => h) (by rfl) ?_ (Till.mk' (((((((Turns.refl [] Y).trans D71 (by simp)).trans D73 (by simp)).trans D77 (by simp)).trans D79 (by simp)).trans D84 (by simp)).trans D94 (by simp)) trivial) ?_
      rotate_left
      · intro W hS; go_simp; all_goals with_reducible rfl
      try simp only [List.setIfInBounds_toArray, List.set_cons_succ, List.set_cons_zero]
      refine reg_take 27 8 0 #[true, true, true, true, true, true, true, true, true, true, true, true, true, true, true, true, true, true, true, true, true, true, true, true, true, true, true, true] (by rfl) (v := ?_) rfl rfl (by kernel_rfl) (by kernel_rfl) (by kernel_rfl) (by kernel_rfl) (fun _ _ _ h => h) (by rfl) ?_ (Till.mk' (((((((Turns.refl [] Y).trans D71 (by simp)).trans D73 (by simp)).trans D77 (by simp)).trans D79 (by simp)).trans D84 (by simp)).trans D94 (by simp)) trivial) ?_
      rotate_left
      · intro W hS; go_simp; all_goals with_reducible rfl
      try simp only [List.setIfInBounds_toArray, List.set_cons_succ, List.set_cons_zero]
      refine reg_done (by kernel_rfl) ?_ _
      have HEND := Lib.hid (below_of' (HT9.out.trans (((((((Turns.refl [] Y).trans D71 (by simp)).trans D73 (by simp)).trans D77 (by simp)).trans D79 (by simp)).trans D84 (by simp)).trans D94 (by simp)) (by simp)))
      go_wp2_with fail
      go_ret
      exact ⟨rfl, HEND.out⟩
end Go.Proofs.Ytoahnhphfabajaa
