/- Receipts: what holds of those that were made. -/
import Derived.Test.YtoahnhphfabajaaGreatRc4
import Derived.Test.YtoahnhphfabajaaGreatNe0
namespace Go.Proofs.YtoahnhphfabajaaGreat
open Go.RowKit
set_option linter.unusedVariables false
set_option maxRecDepth 10000
set_option linter.unusedSimpArgs false
set_option linter.unnecessarySimpa false

theorem within15_any (a n : Int) (w : World) (h1 : -9223372036854775808 ≤ a) (h2 : a ≤ 9223372036854775807) (hn : 0 < n) (hn2 : n ≤ 1000000) :
    Calls Tryz.prog 23 #[.int .i64 a, .int .i64 n] w fun e w' => e = .returned (.int .i64 (a % n)) ∧ w = w' := by
  have hne : (n == 0) = false := by simp; omega
  have t1 := (tmod_bounds a n hn).1
  have t2 := (tmod_bounds a n hn).2
  have hv := within_val a n hn
  by_cases ha : 0 ≤ a
  · have e0 : a.tmod n = a % n := Int.tmod_eq_emod_of_nonneg ha
    have e1 := Int.emod_nonneg a (show n ≠ 0 by omega)
    clear hv
    rw [e0] at t1 t2
    clear e0
    go_enter Tryz.func23, Tryz.ntmps23
    go_wp2_with fail
    go_ret
    exact ⟨rfl, rfl⟩
  · rw [hv]
    clear hv
    by_cases hneg : a.tmod n < 0
    · rw [if_pos hneg]
      go_enter Tryz.func23, Tryz.ntmps23
      go_wp2_with fail
      go_ret
      exact ⟨rfl, rfl⟩
    · rw [if_neg hneg]
      go_enter Tryz.func23, Tryz.ntmps23
      go_wp2_with fail
      go_ret
      exact ⟨rfl, rfl⟩
theorem MkP.blk_ok {L : Led} {tx seq : Int} {r : Rec} {er : Int} (hL : L.ok) (h : MkP L tx seq r er) : r.blk.ok := by
  rcases h with ⟨_, a, b, sn, xs, t, bl, c, h1, h2, h3, h4, h5, h6, rfl⟩ | ⟨_, rfl, _⟩
  · exact hL.blo bl (List.mem_of_getElem? h3)
  · exact blo0_ok
theorem RecR.one {w : World} {r : Rec} {rv hv ev : Value} (h : RecR w r rv hv ev) : rv.oneCell' = true ∧ hv.oneCell' = true ∧ ev.oneCell' = true := by
  obtain ⟨A, c, rfl, _⟩ := h.row.form
  obtain ⟨A1, c1, rfl, _⟩ := h.rows.form
  obtain ⟨A2, c2, rfl, _⟩ := h.ents.form
  exact ⟨rfl, rfl, rfl⟩
/-- The cells of a receipt that was made. -/
theorem MkP.cells {L : Led} {tx seq : Int} {r : Rec} {er : Int} (hL : L.ok) (h : MkP L tx seq r er) {w : World} {rv hv ev : Value} (hR : RecR w r rv hv ev) : (recCells r rv hv ev).length = 75 ∧ ∀ u ∈ recCells r rv hv ev, u.oneCell' = true :=
  ⟨recCells_len (h.blk_ok hL) _ _ _, recCells_one r hR.one.1 hR.one.2.1 hR.one.2.2⟩
theorem txRows_get (t : Txn) (k : Nat) (c : Chg) (h : t.chs[k]? = some c) : (txRows t)[k]? = some (chgSum t.id k c) := by
  unfold txRows
  rw [List.getElem?_mapIdx, h]; rfl
/-- A receipt that was made is one, and holds. -/
theorem MkP.good {L : Led} (hI : Inv L) {tx seq : Int} {r : Rec} (h : MkP L tx seq r 0) :
    r.ok ∧ mcheckZ r.blk.root (leafH (entText r.tx r.chgs (mled (chgSum r.tx r.seq r.c) r.seq r.chgs r.rows))) r.place r.blk.cnt r.ents = true ∧
    ∃ (a b sn : Nat) (xs : List Txn) (t : Txn) (c : Chg), L.txs[a]? = some xs ∧ xs[b]? = some t ∧ L.blks[a]? = some r.blk ∧ t.chs[sn]? = some c ∧ t.id = tx ∧ seq = (sn : Int) ∧ r = mkRec t xs r.blk b sn c ∧ r.blk.n = (a : Int) + 1 := by
  rcases h with ⟨_, a, b, sn, xs, t, bl, c, h1, h2, h3, h4, h5, h6, rfl⟩ | ⟨h, _⟩
  · obtain ⟨ha, hxs⟩ := List.getElem?_eq_some_iff.1 h1
    obtain ⟨hb, ht⟩ := List.getElem?_eq_some_iff.1 h2
    obtain ⟨hB, hbl⟩ := List.getElem?_eq_some_iff.1 h3
    obtain ⟨hs, hc⟩ := List.getElem?_eq_some_iff.1 h4
    have hlk := hI.link a hB ha
    rw [hxs, hbl] at hlk
    have hto := hI.ok.tt xs (List.mem_of_getElem? h1) t (List.mem_of_getElem? h2)
    have hle := hto.len
    have hp1 := mproof_len (txRows t).length (txRows t) sn (Nat.le_refl _) (by rw [txRows_len]; exact hs)
    rw [txRows_len] at hp1
    have hp2 := mproof_le (xs.map entry) b (by rw [List.length_map]; exact hb) (by rw [List.length_map]; omega)
    have hm := mled_proof (txRows t).length (txRows t) sn (chgSum t.id sn c) (Nat.le_refl _) (txRows_get t sn c h4)
    rw [txRows_len] at hm
    refine ⟨⟨hto.chs c (List.mem_of_getElem? h4), hI.ok.blo bl (List.mem_of_getElem? h3), hs, hle, hp1.symm, by show (mproof (xs.map entry) b).length ≤ 1000; omega⟩, ?_, a, b, sn, xs, t, c, h1, h2, h3, h4, h5, h6, rfl, hlk.1⟩
    show mcheckZ bl.root (leafH (entText t.id (t.chs.length : Nat) (mled (chgSum t.id sn c) sn t.chs.length (mproof (txRows t) sn)))) (b : Nat) bl.cnt (mproof (xs.map entry) b) = true
    rw [hm, hlk.2.1, hlk.2.2.1]
    unfold mcheckZ
    rw [if_pos ⟨by omega, by omega, by omega⟩]
    have := mcheck_proof (xs.map entry) b (by rw [List.length_map]; exact hb)
    rw [show (xs.map entry)[b]'(by rw [List.length_map]; exact hb) = entry t by rw [List.getElem_map, ht], List.length_map] at this
    rw [Int.toNat_natCast, Int.toNat_natCast]
    exact this
  · cases h

/-- Where a transaction stands among all. -/
theorem flat_at {α : Type} : ∀ (l : List (List α)) (a b : Nat) (xs : List α), l[a]? = some xs → b < xs.length → l.flatten[(l.take a).flatten.length + b]? = xs[b]?
  | [], a, b, xs, h, _ => by simp at h
  | y :: l, 0, b, xs, h, hb => by
    simp at h
    subst h
    rw [List.take_zero, List.flatten_cons]
    simp only [List.flatten_nil, List.length_nil, Nat.zero_add]
    exact List.getElem?_append_left hb
  | y :: l, a + 1, b, xs, h, hb => by
    rw [List.take_succ_cons, List.flatten_cons, List.flatten_cons, List.length_append, Nat.add_assoc, List.getElem?_append_right (by omega), Nat.add_sub_cancel_left]
    exact flat_at l a b xs (by simpa using h) hb
theorem flat_lt {α : Type} (l : List (List α)) (a b a' : Nat) (xs : List α) (h : l[a]? = some xs) (hb : b < xs.length) (hlt : a < a') : (l.take a).flatten.length + b < (l.take a').flatten.length := by
  obtain ⟨ha, hx⟩ := List.getElem?_eq_some_iff.1 h
  have e : l.take (a + 1) = l.take a ++ [xs] := by rw [List.take_succ_eq_append_getElem ha, hx]
  have h1 : (l.take (a + 1)).flatten.length = (l.take a).flatten.length + xs.length := by rw [e]; simp
  obtain ⟨d, hd⟩ : ∃ d, l.take a' = l.take (a + 1) ++ d := ⟨(l.take a').drop (a + 1), by
    have := List.take_append_drop (a + 1) (l.take a')
    rw [List.take_take, Nat.min_eq_left (by omega)] at this
    exact this.symm⟩
  rw [hd, List.flatten_append, List.length_append, h1]; omega
/-- No two transactions have one number. -/
theorem Inv.pos {L : Led} (hI : Inv L) {a b : Nat} {xs : List Txn} {t : Txn} (h1 : L.txs[a]? = some xs) (h2 : xs[b]? = some t) : t.id = (((L.txs.take a).flatten.length + b : Nat) : Int) ∧ (L.txs.take a).flatten.length + b < L.txs.flatten.length := by
  obtain ⟨hb, _⟩ := List.getElem?_eq_some_iff.1 h2
  have h := flat_at L.txs a b xs h1 hb
  rw [h2] at h
  obtain ⟨hl, he⟩ := List.getElem?_eq_some_iff.1 h
  have := hI.id ((L.txs.take a).flatten.length + b) (by rw [List.length_append]; omega)
  rw [List.getElem_append_left hl, he] at this
  exact ⟨this, hl⟩
theorem Inv.uniq {L : Led} (hI : Inv L) {a b a' b' : Nat} {xs xs' : List Txn} {t t' : Txn} (h1 : L.txs[a]? = some xs) (h2 : xs[b]? = some t) (h3 : L.txs[a']? = some xs') (h4 : xs'[b']? = some t') (he : t.id = t'.id) : a = a' ∧ b = b' := by
  have p1 := (hI.pos h1 h2).1
  have p2 := (hI.pos h3 h4).1
  obtain ⟨hb, _⟩ := List.getElem?_eq_some_iff.1 h2
  obtain ⟨hb', _⟩ := List.getElem?_eq_some_iff.1 h4
  rcases Nat.lt_trichotomy a a' with h | h | h
  · have := flat_lt L.txs a b a' xs h1 hb h; omega
  · subst h; exact ⟨rfl, by omega⟩
  · have := flat_lt L.txs a' b' a xs' h3 hb' h; omega

set_option maxRecDepth 100000 in
set_option maxHeartbeats 4000000 in
theorem known15_any (w : World) : Calls Tryz.prog 22 #[] w fun e w' => e = .returned (.bool true) ∧ Turns [] w w' := by
  have MK := Lib.hid (Make_any led0 led0_ok rfl 0 0 _ _ _ (fun _ => True) w LedR.zero)
  obtain ⟨zz, hzz⟩ : ∃ z, z = rz := ⟨_, rfl⟩
  have hz81 := zero_rec
  rw [← hzz] at hz81
  have HZL := Lib.hid (show zz.length = 75 by rw [hzz]; exact rz_len)
  clear hzz
  go_enter Tryz.func22, Tryz.ntmps22
  go_wp2_with fail
  refine MK.out.mono ?_
  rintro e w1 ⟨r, rv, hv, ev, er, rfl, hR, hP, t1⟩
  have hc := hP.cells led0_ok hR.rd
  obtain rfl : er = 2 := by
    rcases hP with ⟨_, a, b, sn, xs, t, bl, c, h, _⟩ | ⟨h, _⟩
    · simp [led0] at h
    · exact h
  obtain ⟨rcs, hrcs⟩ : ∃ x, x = recCells r rv hv ev := ⟨_, rfl⟩
  rw [← hrcs] at hc ⊢
  have HB := Lib.hid (Blk.new w1 zz 72)
  have tz : Turns [] w1 (w1.alloc (.cells zz.toArray 72)) := (Turns.refl _ _).alloc _
  have HC := Lib.hid (And.intro (show zz.length = rcs.length by rw [HZL.out, hc.1]) (And.intro (size_rec rcs hc.1) (And.intro hc.2 (t1.trans tz (by simp)))))
  have HT := Lib.hid t1.size
  clear hrcs hc hR hP t1 tz MK
  go_wp2_with (first
    | (refine wpList_alloc_arr (o := ⟨some 1, _, _, _, _, _⟩) rfl 72 rfl zz.toArray hz81 ?_)
    | (refine wpList_store_blk rfl 72 (.tmp 1) (.tmp 6) rfl w1.heap.size (by kernel_rfl) rcs zz 72 (by kernel_rfl) HB.out HC.out.1 HC.out.2.1 HC.out.2.2.1 (fun w9 hb9 ht9 hs9 => ?_); have HQ9 := Lib.hid ht9; clear hb9 ht9 hs9)
    | fail)
  go_ret
  exact ⟨rfl, HC.out.2.2.2.trans HQ9.out (by intro x hx; simp at hx; exact .inr (by have := HT.out; omega))⟩
end Go.Proofs.YtoahnhphfabajaaGreat
