/- The law RowSames: rows that differ in one value. -/
import Derived.Test.YtfehhiegnhplhaaVSizes
namespace Go.Proofs.Ytfehhiegnhplhaa
open Go.RowKit
set_option linter.unusedVariables false
set_option maxRecDepth 10000
set_option linter.unusedSimpArgs false
set_option linter.unnecessarySimpa false

theorem run_eqlVq (a b : Val) (x y : Operand) (w : World) : ((do eqGuard .eql 28 x y (.agg #[.int .i64 a.kind, .int .i64 a.n, .string a.s]) (.agg #[.int .i64 b.kind, .int .i64 b.n, .string b.s]); binOp .eql 28 (.agg #[.int .i64 a.kind, .int .i64 a.n, .string a.s]) (.agg #[.int .i64 b.kind, .int .i64 b.n, .string b.s])) : Sem Value).run Try.prog w = .ok (.bool (eqV a b)) w := by
  have hm : Try.prog.eqGuardType Try.prog.depth 28 = false := by kernel_rfl
  rw [Sem.run_bind, run_eqGuard_agg w .eql _ x y _ _ hm, Result.andThen_ok, run_eql_struct, eqlV a b w]
  rfl
theorem yields_eqlVb {ops : Array Oper} {S : World → Prop} {op : Oper} {act : Act} (hw : Region.wanted op (yielded ops act.tmps) = true) (x y : Operand) (t : TypeId) (ho : op.op = .binOp .eql 28 x y t)
    (a b : Val) (r : Bool) (hr : eqV a b = r) (hx : act.eval x = .agg #[.int .i64 a.kind, .int .i64 a.n, .string a.s]) (hy : act.eval y = .agg #[.int .i64 b.kind, .int .i64 b.n, .string b.s]) : YieldsIf Try.prog ops S op (.bool r) act := by
  subst hr
  exact .inl ⟨hw, fun w _ => by
    have h := run_eqlVq a b x y w
    rw [Sem.run_bind] at h
    unfold execOp
    simp only [ho, hx, hy, Sem.run_bind, Sem.run_pure]
    rw [h]; rfl⟩
theorem valCells_set : ∀ (l : List Val) (k : Nat) (x : Val), k < l.length → (((valCells l).set (k * 3) (.int .i64 x.kind)).set (k * 3 + 1) (.int .i64 x.n)).set (k * 3 + 2) (.string x.s) = valCells (l.set k x)
  | [], k, x, h => by simp at h
  | a :: l, 0, x, h => rfl
  | a :: l, k + 1, x, h => by
    rw [show (k + 1) * 3 = k * 3 + 1 + 1 + 1 by omega, show k * 3 + 1 + 1 + 1 + 1 = (k * 3 + 1) + 1 + 1 + 1 by omega, show k * 3 + 1 + 1 + 1 + 2 = (k * 3 + 2) + 1 + 1 + 1 by omega]
    have ih := valCells_set l k x (by simpa using h)
    show Value.int .i64 a.kind :: Value.int .i64 a.n :: Value.string a.s :: ((((valCells l).set (k * 3) (.int .i64 x.kind)).set (k * 3 + 1) (.int .i64 x.n)).set (k * 3 + 2) (.string x.s)) = Value.int .i64 a.kind :: Value.int .i64 a.n :: Value.string a.s :: valCells (l.set k x)
    rw [ih]
theorem own_setV {w : World} {base n g c : Nat} {l : List Val} (h : w.ownsRow base 28 3 (.slice (some ⟨g, 0, none⟩) n c) n (valCells l)) (k : Nat) (hk : k < l.length) (x : Val) :
    (((w.setCell ⟨g, k * 3, none⟩ (.int .i64 x.kind)).setCell ⟨g, k * 3 + 1, none⟩ (.int .i64 x.n)).setCell ⟨g, k * 3 + 2, none⟩ (.string x.s)).ownsRow base 28 3 (.slice (some ⟨g, 0, none⟩) n c) n (valCells (l.set k x)) ∧
    Turns [g] w (((w.setCell ⟨g, k * 3, none⟩ (.int .i64 x.kind)).setCell ⟨g, k * 3 + 1, none⟩ (.int .i64 x.n)).setCell ⟨g, k * 3 + 2, none⟩ (.string x.s)) := by
  obtain ⟨h1, _⟩ := h.stored (k * 3) (.int .i64 x.kind)
  obtain ⟨h2, _⟩ := h1.stored (k * 3 + 1) (.int .i64 x.n)
  obtain ⟨h3, _⟩ := h2.stored (k * 3 + 2) (.string x.s)
  rw [valCells_set l k x hk] at h3
  exact ⟨h3, (((Turns.refl [g] w).setCell (p := ⟨g, k * 3, none⟩) (.inl (by simp)) _).setCell (p := ⟨g, k * 3 + 1, none⟩) (.inl (by simp)) _).setCell (p := ⟨g, k * 3 + 2, none⟩) (.inl (by simp)) _⟩
theorem own_cellV {w : World} {base n g c : Nat} {l : List Val} (h : w.ownsRow base 28 3 (.slice (some ⟨g, 0, none⟩) n c) n (valCells l)) (j : Nat) (hj : j < l.length * 3) : ∃ u, w.cell? ⟨g, j, none⟩ = some u := by
  have hj' : j < (valCells l).length := by rw [valCells_length]; exact hj
  have := h.cells (g := g) rfl j _ (List.getElem?_eq_getElem hj')
  rw [Addr.add_lit, Nat.zero_add] at this
  exact ⟨_, this⟩
theorem own_someV {w : World} {base n : Nat} {v : Value} {l : List Val} (h : w.ownsRow base 28 3 v n (valCells l)) (hn : 0 < n) : ∃ g c, v = .slice (some ⟨g, 0, none⟩) n c ∧ base ≤ g := by
  rcases h.2 with ⟨_, h0⟩ | ⟨g, cap, cur, hv, hb, _⟩
  · omega
  · exact ⟨g, cap, hv, hb⟩
theorem vals_to {w : World} {B n c : Nat} {A : Option Addr} {l : List Val} (h : Sl w B 3 (.slice A n c) n (valCells l)) (k : Nat) (hk : k ≤ n) : Sl w B 3 (.slice A k c) k (valCells (l.take k)) := by
  have hl := (sl_vals h).1
  obtain ⟨h0, A', c', hv, h1, h2, h3, hr⟩ := h
  injection hv with e1 _ e2
  subst e1 e2
  have e : valCells (l.take k) = (valCells l).take (k * 3) := by
    conv => rhs; rw [← List.take_append_drop k l, valCells_app]
    rw [List.take_left' (by rw [valCells_length, List.length_take]; omega)]
  refine ⟨by rw [valCells_length, List.length_take]; omega, _, _, rfl, by omega, h2, h3, ?_⟩
  rw [e]
  exact hr.take _
theorem run_toV (A : Option Addr) (n c k : Nat) (hk : k ≤ n) (hc : n ≤ c) (w : World) : (Instr.sliceAt 22 (.slice A n c) none (some (.int .i64 (k : Int))) none).run Try.prog w = .ok (.slice A k c) w := by
  have z1 : (k : Int) ≤ (c : Int) := by omega
  have z2 : k ≤ c := by omega
  go_simp
theorem same_set (G : List Val) (k : Nat) (hk : k < G.length) (x : Val) : sameVs G (G.set k x) = eqV G[k] x := by
  cases he : eqV G[k] x
  · exact sameVs_at k hk (by simpa using hk) (by simpa using he)
  · have e := (eqV_iff _ _).1 he
    rw [← e, List.set_getElem_self]
    exact (sameVs_iff _ _).2 rfl

set_option maxRecDepth 100000 in
set_option maxHeartbeats 8000000 in
theorem RowSames_walk (v x : Value) (l : List Val) (z : Val) (i : Int) (w0 : World) (h : ValsArg w0 v l) (hx : x = .agg z.cells.toArray ∧ z.fits) (hi : -9223372036854775808 ≤ i ∧ i ≤ 9223372036854775807) :
    Calls Try.prog 6 #[v, .int .i64 i, x] w0 fun e w' => e = .returned (.bool true) ∧ Below w0.heap.size w0 w' := by
  obtain ⟨rfl, hzf⟩ := hx
  obtain ⟨hs, hf⟩ := h
  obtain ⟨A, c, rfl⟩ : ∃ A c, v = .slice A l.length c := by obtain ⟨_, A, c, hv, _⟩ := hs; exact ⟨A, c, hv⟩
  obtain ⟨kz, nz, sz⟩ := z
  show Calls Try.prog 6 #[.slice A l.length c, .int .i64 i, .agg #[.int .i64 kz, .int .i64 nz, .string sz]] w0 _
  obtain ⟨p5, hp5⟩ : ∃ p5, p5 = w0.heap.size := ⟨_, rfl⟩
  obtain ⟨w, hw⟩ : ∃ w, w = w0.alloc (.cells #[.int .i64 kz, .int .i64 nz, .string sz] 28) := ⟨_, rfl⟩
  have v5 := (Blk.new w0 [.int .i64 kz, .int .i64 nz, .string sz] 28).range 0 3
  rw [show w0.alloc (.cells [.int .i64 kz, .int .i64 nz, .string sz].toArray 28) = w from hw.symm, ← hp5, List.drop_zero, List.take_of_length_le (by simp)] at v5
  have t0 : Turns [] w0 w := by rw [hw]; exact (Turns.refl _ _).alloc _
  have hs := t0.slice hs (Nat.le_refl _) (by simp)
  have hz5 : w.heap.size = w0.heap.size + 1 := by rw [hw]; simp
  have KN := Lib.hid (known5_any w)
  have HW := Lib.hid (And.intro hw hp5)
  have HT0 := Lib.hid t0
  have HS := Lib.hid (hs.more (B' := w.heap.size) (by omega))
  have V5 := Lib.hid v5
  have hsz := size_val kz nz sz
  clear hw hp5 t0 hs hz5 v5
  go_enter Try.func6, Try.ntmps6
  go_upto_region 1 with fail
  rw [← HW.out.1, ← HW.out.2]
  go_wp2_with fail
  refine KN.out.mono ?_
  rintro e w1 ⟨rfl, t1⟩
  have FW := Lib.hid (FewVs_any l A l.length c w.heap.size w1 hf (t1.slice HS.out (Nat.le_refl _) (by simp)) t1.size)
  have HT := Lib.hid t1
  clear t1 KN
  go_wp2_with fail
  refine FW.out.mono ?_
  rintro e w2 ⟨rfl, t2⟩
  have HT := Lib.hid (HT.out.trans t2 (by simp))
  clear t2 FW
  have HB : ∀ (W : World), Turns [] w W → Below w0.heap.size w0 W := fun W t => (HT0.out.trans t (by simp)).below (Nat.le_refl _) (by simp)
  replace HB := Lib.hid HB
  cases hfw : fewVs l
  · go_wp2_with fail
    go_ret
    exact ⟨rfl, HB.out _ HT.out⟩
  have h12 := fewVs_len hfw
  have hlc := (sl_vals HS.out).2
  by_cases hl0 : l.length = 0
  · have x0 : ((l.length : Int) == 0) = true := by simp [hl0]
    go_wp2_with fail
    go_ret
    exact ⟨rfl, HB.out _ HT.out⟩
  have x0 : ((l.length : Int) == 0) = false := by simp; intro e; exact hl0 (by simp [e])
  have F4 := Lib.hid (Few4_any ⟨kz, nz, sz⟩ w2 hzf.2.2)
  have r5 := rangeV HT.out V5.out
  go_wp2_with (first
    | (refine wpList_load_g rfl 28 (.tmp 5) rfl p5 0 rfl _ _ r5 Try.underlying28 rfl hsz ?_)
    | fail)
  refine F4.out.mono ?_
  rintro e w3 ⟨rfl, t3⟩
  have HT := Lib.hid (HT.out.trans t3 (by simp))
  clear t3 F4 r5
  generalize hfz : decide ((⟨kz, nz, sz⟩ : Val).s.size ≤ 80) = fz
  cases fz
  · go_wp2_with fail
    go_ret
    exact ⟨rfl, HB.out _ HT.out⟩
  clear hfz
  obtain ⟨G, hG⟩ : ∃ G, G = l.map gval := ⟨_, rfl⟩
  have hgl : G.length = l.length := by rw [hG]; simp
  have hgood := fewVs_good hf
  rw [← hG] at hgood
  have GD := Lib.hid (fun (W : World) (t : Turns [] w W) => Good5_any l A l.length c w.heap.size W hf (t.slice HS.out (Nat.le_refl _) (by simp)) t.size (by omega))
  rw [← hG] at GD
  rw [← hgl] at GD h12 hl0 x0 ⊢
  have HGOOD := Lib.hid hgood
  have G4 := Lib.hid (fun W => Good4_any ⟨kz, nz, sz⟩ W hzf)
  obtain ⟨u, hu⟩ : ∃ u, u = gval ⟨kz, nz, sz⟩ := ⟨_, rfl⟩
  have HUG := Lib.hid (And.intro (gval_ok ⟨kz, nz, sz⟩) (gval_fits ⟨kz, nz, sz⟩ hzf))
  rw [← hu] at G4 HUG
  clear hgood hG hgl hu hfw
  go_wp2_with fail
  refine (GD.out _ HT.out).mono ?_
  rintro e w4 ⟨Aa, ca, rfl, oa, t4⟩
  have HT := Lib.hid (HT.out.trans t4 (by simp))
  have hww4 := HT.out.size
  have HA := Lib.hid (Sl.of_own oa)
  have OA := Lib.hid oa
  clear oa t4
  go_wp2_with fail
  refine (GD.out _ HT.out).mono ?_
  rintro e w5 ⟨Ab, cb, rfl, ob, t5⟩
  obtain ⟨gb, cb', hvb, hgb⟩ := own_someV ob (by omega)
  injection hvb with e1 _ e2
  subst e1 e2
  have HT := Lib.hid (HT.out.trans t5 (by simp))
  have HA := Lib.hid (t5.slice HA.out (Nat.le_refl _) (by simp))
  have OB := Lib.hid ob
  have hle := t5.size
  have hgba : (Value.slice Aa G.length ca).ownBlock ≠ some gb := by intro e; have := (OA.out.lt _ e).2; omega
  obtain ⟨k, hk⟩ : ∃ k : Nat, i % (G.length : Int) = k := ⟨(i % (G.length : Int)).toNat, by have := Int.emod_nonneg i (show (G.length : Int) ≠ 0 by omega); omega⟩
  have hkl : k < G.length := by have := Int.emod_lt_of_pos i (show (0 : Int) < (G.length : Int) by omega); omega
  have WN := fun W => within_any i (G.length : Int) W hi.1 hi.2 (by omega) (by omega)
  rw [hk] at WN
  replace WN := Lib.hid WN
  clear ob t5 hk hi
  go_wp2_with fail
  refine (WN.out _).mono ?_
  rintro e w6 ⟨rfl, rfl⟩
  have hki : (k : Int) < (G.length : Int) := by omega
  have r5 := rangeV HT.out V5.out
  go_wp2_with (first
    | (refine wpList_load_mid rfl 28 (.tmp 5) rfl p5 0 rfl _ _ r5 Try.underlying28 rfl hsz ?_)
    | fail)
  refine (G4.out _).mono ?_
  rintro e w7 ⟨rfl, t7⟩
  have ob := own_v0 OB.out t7
  have HT := Lib.hid (HT.out.trans t7 (by simp))
  have HA := Lib.hid ((t7.slice HA.out hle (by simp)))
  clear OB WN r5 G4
  obtain ⟨ob', ts⟩ := own_setV ob k hkl u
  obtain ⟨y0, c0⟩ := own_cellV ob (k * 3) (by omega)
  obtain ⟨y1, c1⟩ := own_cellV ob (k * 3 + 1) (by omega)
  obtain ⟨y2, c2⟩ := own_cellV ob (k * 3 + 2) (by omega)
  have f0 := ob.frozenAt (k * 3)
  have f1 := ob.frozenAt (k * 3 + 1)
  have f2 := ob.frozenAt (k * 3 + 2)
  obtain ⟨Y, hY⟩ : ∃ Y, Y = ((w7.setCell ⟨gb, k * 3, none⟩ (.int .i64 u.kind)).setCell ⟨gb, k * 3 + 1, none⟩ (.int .i64 u.n)).setCell ⟨gb, k * 3 + 2, none⟩ (.string u.s) := ⟨_, rfl⟩
  rw [← hY] at ob' ts
  have hBY : Sl Y w4.heap.size 3 (.slice Aa G.length ca) G.length (valCells G) := ts.slice HA.out (by have := t7.size; omega) (by intro x hx; simp at hx; subst hx; exact hgba)
  have HY := Lib.hid hY
  have TY := Lib.hid (HT.out.trans ts (by intro x hx; simp at hx; exact .inr (by omega)))
  have HA := Lib.hid hBY
  have HLE := Lib.hid (show w4.heap.size ≤ Y.heap.size by have := t7.size; have := ts.size; omega)
  obtain ⟨bA, oA, hbA, rgA⟩ := val_range hBY k hkl
  subst hbA
  have hbs := Sl.of_own ob'
  obtain ⟨bB, oB, hbB, rgB⟩ := val_range hbs k (by simpa using hkl)
  injection hbB with hbB
  injection hbB with hb1 hb2
  subst hb1 hb2
  have HBs := Lib.hid hbs
  obtain ⟨sm, hsm⟩ : ∃ sm, sm = eqV G[k] u := ⟨_, rfl⟩
  have hss := same_set G k hkl u
  rw [← hsm] at hss
  have hgk : (G.set k u)[k]'(by simpa using hkl) = u := by simp
  rw [hgk] at rgB
  obtain ⟨⟨k1, n1, s1⟩, hc1⟩ : ∃ cc, cc = G[k] := ⟨_, rfl⟩
  rw [← hc1] at rgA hsm
  obtain ⟨k2, n2, s2⟩ := u
  replace rgA : Y.rangeAt bA (oA + k * 3) [.int .i64 k1, .int .i64 n1, .string s1] := rgA
  replace rgB : Y.rangeAt gb (0 + k * 3) [.int .i64 k2, .int .i64 n2, .string s2] := rgB
  rw [Nat.zero_add] at rgB
  have hz1 := size_val k1 n1 s1
  have hz2 := size_val k2 n2 s2
  have hr := hsm.symm
  have S0 : Turns [] Y Y.drew := (Turns.refl _ _).drew
  have hgl2 : (G.set k ⟨k2, n2, s2⟩).length = G.length := by simp
  have hgb2 : ∀ x ∈ G.set k ⟨k2, n2, s2⟩, vcheck x = 0 ∧ x.fits := by
    intro x hx
    rcases List.mem_or_eq_of_mem_set hx with h | rfl
    · exact HGOOD.out x h
    · exact HUG.out
  have hbytes := row_inj HGOOD.out hgb2 hgl2.symm
  have hseq : sm = true ↔ G = G.set k ⟨k2, n2, s2⟩ := by rw [← hss]; exact sameVs_iff _ _
  have HF := Lib.hid (And.intro hss (And.intro hgl2 (And.intro hgb2 (And.intro hbytes hseq))))
  have gc1 : (0 : Nat) + k * 3 = k * 3 := Nat.zero_add _
  clear hgk hc1 hsm hss hgl2 hgb2 hbytes hseq hbs hBY hY ts t7 ob' ob HT HUG
  go_upto_region 8 with fail
  rw [← HY.out]
  refine reg_begin (fun W => Turns [] Y W) (fun _ => True) 10 10 #[false, false, false, false, false, false, false, false, false, false] (by kernel_rfl) (by kernel_rfl) (by kernel_rfl) ?_
  refine reg_take 0 39 9 #[true, false, false, false, false, false, false, false, false, false] (by rfl) (v := ?_) rfl rfl (by kernel_rfl) (by kernel_rfl) (by kernel_rfl) (by kernel_rfl) (fun _ _ _ h => h) (by rfl) ?_ (Till.mk' S0 trivial) ?_
  rotate_left
  · intro W hS; go_simp; all_goals with_reducible rfl
  try simp only [List.setIfInBounds_toArray, List.set_cons_succ, List.set_cons_zero]
  refine reg_take 1 40 8 #[true, true, false, false, false, false, false, false, false, false] (by rfl) (v := ?_) rfl rfl (by kernel_rfl) (by kernel_rfl) (by kernel_rfl) (by kernel_rfl) (fun _ _ _ h => h) (by rfl) ?_ (Till.mk' S0 trivial) ?_
  rotate_left
  · intro W hS; go_simp; all_goals with_reducible rfl
  try simp only [List.setIfInBounds_toArray, List.set_cons_succ, List.set_cons_zero]
  refine reg_take 2 41 7 #[true, true, true, false, false, false, false, false, false, false] (by rfl) (v := ?_) rfl rfl (by kernel_rfl) (by kernel_rfl) (by kernel_rfl) (by kernel_rfl) (fun _ _ _ h => h) (by rfl) ?_ (Till.mk' S0 trivial) ?_
  rotate_left
  · intro W hS; go_simp; all_goals with_reducible rfl
  try simp only [List.setIfInBounds_toArray, List.set_cons_succ, List.set_cons_zero]
  refine reg_take_y 3 42 6 #[true, true, true, true, false, false, false, false, false, false] (by rfl) rfl rfl (by kernel_rfl) (by kernel_rfl) (by kernel_rfl) (by kernel_rfl) (fun _ _ _ h => h) (yieldsIf_load_mid (by rfl) _ _ rfl bA (oA + k * 3) (by rfl) _ _ (fun W hS => rangeV hS rgA) Try.underlying28 rfl hz1) (Till.mk' S0 trivial) ?_
  try simp only [List.setIfInBounds_toArray, List.set_cons_succ, List.set_cons_zero]
  refine reg_take 4 43 5 #[true, true, true, true, true, false, false, false, false, false] (by rfl) (v := ?_) rfl rfl (by kernel_rfl) (by kernel_rfl) (by kernel_rfl) (by kernel_rfl) (fun _ _ _ h => h) (by rfl) ?_ (Till.mk' S0 trivial) ?_
  rotate_left
  · intro W hS; go_simp; all_goals with_reducible rfl
  try simp only [List.setIfInBounds_toArray, List.set_cons_succ, List.set_cons_zero]
  refine reg_take 5 44 4 #[true, true, true, true, true, true, false, false, false, false] (by rfl) (v := ?_) rfl rfl (by kernel_rfl) (by kernel_rfl) (by kernel_rfl) (by kernel_rfl) (fun _ _ _ h => h) (by rfl) ?_ (Till.mk' S0 trivial) ?_
  rotate_left
  · intro W hS; go_simp; all_goals with_reducible rfl
  try simp only [List.setIfInBounds_toArray, List.set_cons_succ, List.set_cons_zero]
  refine reg_take 6 45 3 #[true, true, true, true, true, true, true, false, false, false] (by rfl) (v := ?_) rfl rfl (by kernel_rfl) (by kernel_rfl) (by kernel_rfl) (by kernel_rfl) (fun _ _ _ h => h) (by rfl) ?_ (Till.mk' S0 trivial) ?_
  rotate_left
  · intro W hS; go_simp; all_goals with_reducible rfl
  try simp only [List.setIfInBounds_toArray, List.set_cons_succ, List.set_cons_zero]
  refine reg_take_y 7 46 2 #[true, true, true, true, true, true, true, true, false, false] (by rfl) rfl rfl (by kernel_rfl) (by kernel_rfl) (by kernel_rfl) (by kernel_rfl) (fun _ _ _ h => h) (yieldsIf_load_mid (by rfl) _ _ rfl gb (k * 3) (by rfl) _ _ (fun W hS => rangeV hS rgB) Try.underlying28 rfl hz2) (Till.mk' S0 trivial) ?_
  try simp only [List.setIfInBounds_toArray, List.set_cons_succ, List.set_cons_zero]
  refine reg_take_y 8 47 1 #[true, true, true, true, true, true, true, true, true, false] (by rfl) rfl rfl (by kernel_rfl) (by kernel_rfl) (by kernel_rfl) (by kernel_rfl) (fun _ _ _ h => h) (yields_eqlVb (by rfl) _ _ _ rfl ⟨k1, n1, s1⟩ ⟨k2, n2, s2⟩ sm hr (by rfl) (by rfl)) (Till.mk' S0 trivial) ?_
  try simp only [List.setIfInBounds_toArray, List.set_cons_succ, List.set_cons_zero]
  refine reg_take 9 10 0 #[true, true, true, true, true, true, true, true, true, true] (by rfl) (v := ?_) rfl rfl (by kernel_rfl) (by kernel_rfl) (by kernel_rfl) (by kernel_rfl) (fun _ _ _ h => h) (by rfl) ?_ (Till.mk' S0 trivial) ?_
  rotate_left
  · intro W hS; go_simp; all_goals with_reducible rfl
  try simp only [List.setIfInBounds_toArray, List.set_cons_succ, List.set_cons_zero]
  refine reg_done (by kernel_rfl) ?_ _
  obtain ⟨N, hN⟩ : ∃ N, N = G.length - 1 := ⟨_, rfl⟩
  have hwr : IntKind.i64.wrap ((G.length : Int) - 1) = (N : Int) := by rw [IntKind.wrap_i64]; omega
  have hto := run_toV (some ⟨bA, oA, none⟩) G.length ca N (by omega) (by obtain ⟨_, _, _, hv, h1, _⟩ := HA.out; injection hv with _ _ e3; omega)
  have hsl := vals_to HA.out N (by omega)
  have hsf : sameVs G (G.take N) = false := sameVs_len (by rw [List.length_take]; omega)
  have hst : ((strOf (rowBytes G)).toList == (strOf (rowBytes (G.set k ⟨k2, n2, s2⟩))).toList) = sm := by
    rw [strOf_toList, strOf_toList, Bool.eq_iff_iff, beq_iff_eq, HF.out.2.2.2.1, HF.out.2.2.2.2]
  obtain ⟨sA, hsA⟩ : ∃ sA, sA = strOf (rowBytes G) := ⟨_, rfl⟩
  obtain ⟨sB, hsB⟩ : ∃ sB, sB = strOf (rowBytes (G.set k ⟨k2, n2, s2⟩)) := ⟨_, rfl⟩
  rw [← hsA, ← hsB] at hst
  have HSA := Lib.hid hsA
  have HSB := Lib.hid hsB
  have HN := Lib.hid hN
  have HTK := Lib.hid hsl
  have HSF := Lib.hid hsf
  have SGG := Lib.hid (show sameVs G G = true from (sameVs_iff _ _).2 rfl)
  have S1 : Turns [] Y Y.drew.drew := (Turns.refl _ _).drew.drew
  clear hsA hsB hN hsl hsf hr rgA rgB hz1 hz2 S0
  go_upto_region 9 with fail
  have hS := S1
  refine reg_begin (fun W => Turns [] Y W) (fun _ => True) 33 33 #[false, false, false, false, false, false, false, false, false, false, false, false, false, false, false, false, false, false, false, false, false, false, false, false, false, false, false, false, false, false, false, false, false] (by kernel_rfl) (by kernel_rfl) (by kernel_rfl) ?_
  refine reg_take 0 48 32 #[true, false, false, false, false, false, false, false, false, false, false, false, false, false, false, false, false, false, false, false, false, false, false, false, false, false, false, false, false, false, false, false, false] (by rfl) (v := ?_) rfl rfl (by kernel_rfl) (by kernel_rfl) (by kernel_rfl) (by kernel_rfl) (fun _ _ _ h => h) (by rfl) ?_ (Till.mk' hS trivial) ?_
  rotate_left
  · intro W hS; go_simp; all_goals with_reducible rfl
  try simp only [List.setIfInBounds_toArray, List.set_cons_succ, List.set_cons_zero]
  refine reg_take 1 49 31 #[true, true, false, false, false, false, false, false, false, false, false, false, false, false, false, false, false, false, false, false, false, false, false, false, false, false, false, false, false, false, false, false, false] (by rfl) (v := ?_) rfl rfl (by kernel_rfl) (by kernel_rfl) (by kernel_rfl) (by kernel_rfl) (fun _ _ _ h => h) (by rfl) ?_ (Till.mk' hS trivial) ?_
  rotate_left
  · intro W hS; go_simp; all_goals with_reducible rfl
  try simp only [List.setIfInBounds_toArray, List.set_cons_succ, List.set_cons_zero]
  refine reg_one 2 30 #[true, true, true, false, false, false, false, false, false, false, false, false, false, false, false, false, false, false, false, false, false, false, false, false, false, false, false, false, false, false, false, false, false] (by kernel_rfl) rfl (by rfl) (by kernel_rfl) (fun K hK => ?_)
  go_simp
  refine (GD.out _ (TY.out.trans hS (by simp))).mono ?_
  rintro e y1 ⟨A9, c9, rfl, o9, tt⟩
  have s9 := Sl.of_own o9
  clear o9
  have hS := hS.trans tt (by simp)
  clear tt
  refine hK _ _ (Till.mk' hS trivial) ?_
  clear hK K
  try simp only [List.setIfInBounds_toArray, List.set_cons_succ, List.set_cons_zero]
  refine reg_one 3 29 #[true, true, true, true, false, false, false, false, false, false, false, false, false, false, false, false, false, false, false, false, false, false, false, false, false, false, false, false, false, false, false, false, false] (by kernel_rfl) rfl (by rfl) (by kernel_rfl) (fun K hK => ?_)
  go_simp
  refine (SameV_any G G _ _ _ _ _ _ y1.heap.size y1 ((hS.slice HA.out HLE.out (by simp)).more (Nat.le_trans HLE.out hS.size)) s9 (Nat.le_refl _)).mono ?_
  rintro e y2 ⟨rfl, tt⟩
  rw [SGG.out]
  clear s9
  have hS := hS.trans tt (by simp)
  clear tt
  refine hK _ _ (Till.mk' hS trivial) ?_
  clear hK K
  try simp only [List.setIfInBounds_toArray, List.set_cons_succ, List.set_cons_zero]
  refine reg_take 4 52 28 #[true, true, true, true, true, false, false, false, false, false, false, false, false, false, false, false, false, false, false, false, false, false, false, false, false, false, false, false, false, false, false, false, false] (by rfl) (v := ?_) rfl rfl (by kernel_rfl) (by kernel_rfl) (by kernel_rfl) (by kernel_rfl) (fun _ _ _ h => h) (by rfl) ?_ (Till.mk' hS trivial) ?_
  rotate_left
  · intro W hS; go_simp; all_goals with_reducible rfl
  try simp only [List.setIfInBounds_toArray, List.set_cons_succ, List.set_cons_zero]
  refine reg_take 5 53 27 #[true, true, true, true, true, true, false, false, false, false, false, false, false, false, false, false, false, false, false, false, false, false, false, false, false, false, false, false, false, false, false, false, false] (by rfl) (v := ?_) rfl rfl (by kernel_rfl) (by kernel_rfl) (by kernel_rfl) (by kernel_rfl) (fun _ _ _ h => h) (by rfl) ?_ (Till.mk' hS trivial) ?_
  rotate_left
  · intro W hS; go_simp; all_goals with_reducible rfl
  try simp only [List.setIfInBounds_toArray, List.set_cons_succ, List.set_cons_zero]
  refine reg_take 6 54 26 #[true, true, true, true, true, true, true, false, false, false, false, false, false, false, false, false, false, false, false, false, false, false, false, false, false, false, false, false, false, false, false, false, false] (by rfl) (v := ?_) rfl rfl (by kernel_rfl) (by kernel_rfl) (by kernel_rfl) (by kernel_rfl) (fun _ _ _ h => h) (by rfl) ?_ (Till.mk' hS trivial) ?_
  rotate_left
  · intro W hS; go_simp; all_goals with_reducible rfl
  try simp only [List.setIfInBounds_toArray, List.set_cons_succ, List.set_cons_zero]
  refine reg_take 8 56 25 #[true, true, true, true, true, true, true, false, true, false, false, false, false, false, false, false, false, false, false, false, false, false, false, false, false, false, false, false, false, false, false, false, false] (by rfl) (v := ?_) rfl rfl (by kernel_rfl) (by kernel_rfl) (by kernel_rfl) (by kernel_rfl) (fun _ _ _ h => h) (by rfl) ?_ (Till.mk' hS trivial) ?_
  rotate_left
  · intro W hS; go_simp; all_goals with_reducible rfl
  try simp only [List.setIfInBounds_toArray, List.set_cons_succ, List.set_cons_zero]
  refine reg_one 7 24 #[true, true, true, true, true, true, true, true, true, false, false, false, false, false, false, false, false, false, false, false, false, false, false, false, false, false, false, false, false, false, false, false, false] (by kernel_rfl) rfl (by rfl) (by kernel_rfl) (fun K hK => ?_)
  go_simp
  refine (SameV_any G (G.set k ⟨k2, n2, s2⟩) _ _ _ _ _ _ y2.heap.size y2 ((hS.slice HA.out HLE.out (by simp)).more (Nat.le_trans HLE.out hS.size)) ((hS.slice HBs.out (Nat.le_refl _) (by simp)).more hS.size) (Nat.le_refl _)).mono ?_
  rintro e y3 ⟨rfl, tt⟩
  rw [HF.out.1]
  have hS := hS.trans tt (by simp)
  clear tt
  refine hK _ _ (Till.mk' hS trivial) ?_
  clear hK K
  try simp only [List.setIfInBounds_toArray, List.set_cons_succ, List.set_cons_zero]
  refine reg_take 9 57 23 #[true, true, true, true, true, true, true, true, true, true, false, false, false, false, false, false, false, false, false, false, false, false, false, false, false, false, false, false, false, false, false, false, false] (by rfl) (v := ?_) rfl rfl (by kernel_rfl) (by kernel_rfl) (by kernel_rfl) (by kernel_rfl) (fun _ _ _ h => h) (by rfl) ?_ (Till.mk' hS trivial) ?_
  rotate_left
  · intro W hS; go_simp; all_goals with_reducible rfl
  try simp only [List.setIfInBounds_toArray, List.set_cons_succ, List.set_cons_zero]
  refine reg_take 10 58 22 #[true, true, true, true, true, true, true, true, true, true, true, false, false, false, false, false, false, false, false, false, false, false, false, false, false, false, false, false, false, false, false, false, false] (by rfl) (v := ?_) rfl rfl (by kernel_rfl) (by kernel_rfl) (by kernel_rfl) (by kernel_rfl) (fun _ _ _ h => h) (by rfl) ?_ (Till.mk' hS trivial) ?_
  rotate_left
  · intro W hS; go_simp; all_goals with_reducible rfl
  try simp only [List.setIfInBounds_toArray, List.set_cons_succ, List.set_cons_zero]
  refine reg_take 11 59 21 #[true, true, true, true, true, true, true, true, true, true, true, true, false, false, false, false, false, false, false, false, false, false, false, false, false, false, false, false, false, false, false, false, false] (by rfl) (v := ?_) rfl rfl (by kernel_rfl) (by kernel_rfl) (by kernel_rfl) (by kernel_rfl) (fun _ _ _ h => h) (by rfl) ?_ (Till.mk' hS trivial) ?_
  rotate_left
  · intro W hS; go_simp; all_goals with_reducible rfl
  try simp only [List.setIfInBounds_toArray, List.set_cons_succ, List.set_cons_zero]
  refine reg_take 12 60 20 #[true, true, true, true, true, true, true, true, true, true, true, true, true, false, false, false, false, false, false, false, false, false, false, false, false, false, false, false, false, false, false, false, false] (by rfl) (v := ?_) rfl rfl (by kernel_rfl) (by kernel_rfl) (by kernel_rfl) (by kernel_rfl) (fun _ _ _ h => h) (by rfl) ?_ (Till.mk' hS trivial) ?_
  rotate_left
  · intro W hS; go_simp; all_goals with_reducible rfl
  try simp only [List.setIfInBounds_toArray, List.set_cons_succ, List.set_cons_zero]
  refine reg_take 15 63 19 #[true, true, true, true, true, true, true, true, true, true, true, true, true, false, false, true, false, false, false, false, false, false, false, false, false, false, false, false, false, false, false, false, false] (by rfl) (v := ?_) rfl rfl (by kernel_rfl) (by kernel_rfl) (by kernel_rfl) (by kernel_rfl) (fun _ _ _ h => h) (by rfl) ?_ (Till.mk' hS trivial) ?_
  rotate_left
  · intro W hS; go_simp; all_goals with_reducible rfl
  try simp only [List.setIfInBounds_toArray, List.set_cons_succ, List.set_cons_zero]
  refine reg_take 19 67 18 #[true, true, true, true, true, true, true, true, true, true, true, true, true, false, false, true, false, false, false, true, false, false, false, false, false, false, false, false, false, false, false, false, false] (by rfl) (v := ?_) rfl rfl (by kernel_rfl) (by kernel_rfl) (by kernel_rfl) (by kernel_rfl) (fun _ _ _ h => h) (by rfl) ?_ (Till.mk' hS trivial) ?_
  rotate_left
  · intro W hS; go_simp; all_goals with_reducible rfl
  try simp only [List.setIfInBounds_toArray, List.set_cons_succ, List.set_cons_zero]
  refine reg_one 13 17 #[true, true, true, true, true, true, true, true, true, true, true, true, true, true, false, true, false, false, false, true, false, false, false, false, false, false, false, false, false, false, false, false, false] (by kernel_rfl) rfl (by rfl) (by kernel_rfl) (fun K hK => ?_)
  go_simp
  refine (RowBytes_any G _ _ _ y3.heap.size y3 (fun x hx => (HGOOD.out x hx).2) ((hS.slice HA.out HLE.out (by simp)).more (Nat.le_trans HLE.out hS.size)) (Nat.le_refl _) (by omega)).mono ?_
  rintro e y4 ⟨v4, rfl, m4⟩
  have tt := m4.turns
  have sv4 := m4.sl
  clear m4
  have hS := hS.trans tt (by simp)
  clear tt
  refine hK _ _ (Till.mk' hS trivial) ?_
  clear hK K
  try simp only [List.setIfInBounds_toArray, List.set_cons_succ, List.set_cons_zero]
  refine reg_two 14 16 16 #[true, true, true, true, true, true, true, true, true, true, true, true, true, true, true, true, false, false, false, true, false, false, false, false, false, false, false, false, false, false, false, false, false] #[true, true, true, true, true, true, true, true, true, true, true, true, true, true, false, true, true, false, false, true, false, false, false, false, false, false, false, false, false, false, false, false, false] (by kernel_rfl) rfl rfl (by rfl) (by rfl) (by kernel_rfl) (by kernel_rfl) (fun K hK => ?_) (fun K hK => ?_)
  · have hcv := conv_str (P := Try.prog) (dst := 9) (src := 29) sv4 Try.underlying29 Try.underlying5 Try.underlying9
    rw [← HSA.out] at hcv
    go_simp
    clear hcv
    refine hK _ _ (Till.mk' hS trivial) ?_
    clear hK K
    try simp only [List.setIfInBounds_toArray, List.set_cons_succ, List.set_cons_zero]
    refine reg_one 16 15 #[true, true, true, true, true, true, true, true, true, true, true, true, true, true, true, true, true, false, false, true, false, false, false, false, false, false, false, false, false, false, false, false, false] (by kernel_rfl) rfl (by rfl) (by kernel_rfl) (fun K hK => ?_)
    go_simp
    refine (RowBytes_any (G.set k ⟨k2, n2, s2⟩) _ _ _ y4.heap.size y4 (fun x hx => (HF.out.2.2.1 x hx).2) ((hS.slice HBs.out (Nat.le_refl _) (by simp)).more hS.size) (Nat.le_refl _) (by rw [HF.out.2.1]; omega)).mono ?_
    rintro e y5 ⟨v5, rfl, m5⟩
    have tt := m5.turns
    have sv4 := tt.slice sv4 (Nat.le_refl _) (by simp)
    have sv5 := m5.sl
    clear m5
    have hS := hS.trans tt (by simp)
    clear tt
    refine hK _ _ (Till.mk' hS trivial) ?_
    clear hK K
    try simp only [List.setIfInBounds_toArray, List.set_cons_succ, List.set_cons_zero]
    refine reg_one 17 14 #[true, true, true, true, true, true, true, true, true, true, true, true, true, true, true, true, true, true, false, true, false, false, false, false, false, false, false, false, false, false, false, false, false] (by kernel_rfl) rfl (by rfl) (by kernel_rfl) (fun K hK => ?_)
    have hcv := conv_str (P := Try.prog) (dst := 9) (src := 29) sv5 Try.underlying29 Try.underlying5 Try.underlying9
    rw [← HSB.out] at hcv
    go_simp
    clear hcv
    refine hK _ _ (Till.mk' hS trivial) ?_
    clear hK K
    try simp only [List.setIfInBounds_toArray, List.set_cons_succ, List.set_cons_zero]
    refine reg_take 18 66 13 #[true, true, true, true, true, true, true, true, true, true, true, true, true, true, true, true, true, true, true, true, false, false, false, false, false, false, false, false, false, false, false, false, false] (by rfl) (v := ?_) rfl rfl (by kernel_rfl) (by kernel_rfl) (by kernel_rfl) (by kernel_rfl) (fun _ _ _ h => h) (by rfl) ?_ (Till.mk' hS trivial) ?_
    rotate_left
    · intro W hS; go_simp; all_goals with_reducible rfl
    try simp only [List.setIfInBounds_toArray, List.set_cons_succ, List.set_cons_zero]
    refine reg_take 20 68 12 #[true, true, true, true, true, true, true, true, true, true, true, true, true, true, true, true, true, true, true, true, true, false, false, false, false, false, false, false, false, false, false, false, false] (by rfl) (v := ?_) rfl rfl (by kernel_rfl) (by kernel_rfl) (by kernel_rfl) (by kernel_rfl) (fun _ _ _ h => h) (by rfl) ?_ (Till.mk' hS trivial) ?_
    rotate_left
    · intro W hS; go_simp; all_goals with_reducible rfl
    try simp only [List.setIfInBounds_toArray, List.set_cons_succ, List.set_cons_zero]
    refine reg_take 21 69 11 #[true, true, true, true, true, true, true, true, true, true, true, true, true, true, true, true, true, true, true, true, true, true, false, false, false, false, false, false, false, false, false, false, false] (by rfl) (v := ?_) rfl rfl (by kernel_rfl) (by kernel_rfl) (by kernel_rfl) (by kernel_rfl) (fun _ _ _ h => h) (by rfl) ?_ (Till.mk' hS trivial) ?_
    rotate_left
    · intro W hS; go_simp; all_goals with_reducible rfl
    try simp only [List.setIfInBounds_toArray, List.set_cons_succ, List.set_cons_zero]
    refine reg_take 22 70 10 #[true, true, true, true, true, true, true, true, true, true, true, true, true, true, true, true, true, true, true, true, true, true, true, false, false, false, false, false, false, false, false, false, false] (by rfl) (v := ?_) rfl rfl (by kernel_rfl) (by kernel_rfl) (by kernel_rfl) (by kernel_rfl) (fun _ _ _ h => h) (by rfl) ?_ (Till.mk' hS trivial) ?_
    rotate_left
    · intro W hS; go_simp; all_goals with_reducible rfl
    try simp only [List.setIfInBounds_toArray, List.set_cons_succ, List.set_cons_zero]
    refine reg_take 23 71 9 #[true, true, true, true, true, true, true, true, true, true, true, true, true, true, true, true, true, true, true, true, true, true, true, true, false, false, false, false, false, false, false, false, false] (by rfl) (v := ?_) rfl rfl (by kernel_rfl) (by kernel_rfl) (by kernel_rfl) (by kernel_rfl) (fun _ _ _ h => h) (by rfl) ?_ (Till.mk' hS trivial) ?_
    rotate_left
    · intro W hS; go_simp; all_goals with_reducible rfl
    try simp only [List.setIfInBounds_toArray, List.set_cons_succ, List.set_cons_zero]
    refine reg_take 24 72 8 #[true, true, true, true, true, true, true, true, true, true, true, true, true, true, true, true, true, true, true, true, true, true, true, true, true, false, false, false, false, false, false, false, false] (by rfl) (v := ?_) rfl rfl (by kernel_rfl) (by kernel_rfl) (by kernel_rfl) (by kernel_rfl) (fun _ _ _ h => h) (by rfl) ?_ (Till.mk' hS trivial) ?_
    rotate_left
    · intro W hS; go_simp; all_goals with_reducible rfl
    try simp only [List.setIfInBounds_toArray, List.set_cons_succ, List.set_cons_zero]
    refine reg_take 25 73 7 #[true, true, true, true, true, true, true, true, true, true, true, true, true, true, true, true, true, true, true, true, true, true, true, true, true, true, false, false, false, false, false, false, false] (by rfl) (v := ?_) rfl rfl (by kernel_rfl) (by kernel_rfl) (by kernel_rfl) (by kernel_rfl) (fun _ _ _ h => h) (by rfl) ?_ (Till.mk' hS trivial) ?_
    rotate_left
    · intro W hS; go_simp; all_goals with_reducible rfl
    try simp only [List.setIfInBounds_toArray, List.set_cons_succ, List.set_cons_zero]
    refine reg_take 26 74 6 #[true, true, true, true, true, true, true, true, true, true, true, true, true, true, true, true, true, true, true, true, true, true, true, true, true, true, true, false, false, false, false, false, false] (by rfl) (v := ?_) rfl rfl (by kernel_rfl) (by kernel_rfl) (by kernel_rfl) (by kernel_rfl) (fun _ _ _ h => h) (by rfl) ?_ (Till.mk' hS trivial) ?_
    rotate_left
    · intro W hS; go_simp; all_goals with_reducible rfl
    try simp only [List.setIfInBounds_toArray, List.set_cons_succ, List.set_cons_zero]
    refine reg_take 27 75 5 #[true, true, true, true, true, true, true, true, true, true, true, true, true, true, true, true, true, true, true, true, true, true, true, true, true, true, true, true, false, false, false, false, false] (by rfl) (v := ?_) rfl rfl (by kernel_rfl) (by kernel_rfl) (by kernel_rfl) (by kernel_rfl) (fun _ _ _ h => h) (by rfl) ?_ (Till.mk' hS trivial) ?_
    rotate_left
    · intro W hS; go_simp; all_goals with_reducible rfl
    try simp only [List.setIfInBounds_toArray, List.set_cons_succ, List.set_cons_zero]
    refine reg_take 28 76 4 #[true, true, true, true, true, true, true, true, true, true, true, true, true, true, true, true, true, true, true, true, true, true, true, true, true, true, true, true, true, false, false, false, false] (by rfl) (v := ?_) rfl rfl (by kernel_rfl) (by kernel_rfl) (by kernel_rfl) (by kernel_rfl) (fun _ _ _ h => h) (by rfl) ?_ (Till.mk' hS trivial) ?_
    rotate_left
    · intro W hS; go_simp; all_goals with_reducible rfl
    try simp only [List.setIfInBounds_toArray, List.set_cons_succ, List.set_cons_zero]
    refine reg_one 29 3 #[true, true, true, true, true, true, true, true, true, true, true, true, true, true, true, true, true, true, true, true, true, true, true, true, true, true, true, true, true, true, false, false, false] (by kernel_rfl) rfl (by rfl) (by kernel_rfl) (fun K hK => ?_)
    go_simp
    refine (SameV_any G (G.take N) _ _ _ _ _ _ y5.heap.size y5 ((hS.slice HA.out HLE.out (by simp)).more (Nat.le_trans HLE.out hS.size)) ((hS.slice HTK.out HLE.out (by simp)).more (Nat.le_trans HLE.out hS.size)) (Nat.le_refl _)).mono ?_
    rintro e y6 ⟨rfl, tt⟩
    rw [HSF.out]
    have hS := hS.trans tt (by simp)
    clear tt
    refine hK _ _ (Till.mk' hS trivial) ?_
    clear hK K
    try simp only [List.setIfInBounds_toArray, List.set_cons_succ, List.set_cons_zero]
    refine reg_take 30 78 2 #[true, true, true, true, true, true, true, true, true, true, true, true, true, true, true, true, true, true, true, true, true, true, true, true, true, true, true, true, true, true, true, false, false] (by rfl) (v := ?_) rfl rfl (by kernel_rfl) (by kernel_rfl) (by kernel_rfl) (by kernel_rfl) (fun _ _ _ h => h) (by rfl) ?_ (Till.mk' hS trivial) ?_
    rotate_left
    · intro W hS; go_simp; all_goals with_reducible rfl
    try simp only [List.setIfInBounds_toArray, List.set_cons_succ, List.set_cons_zero]
    refine reg_take 31 79 1 #[true, true, true, true, true, true, true, true, true, true, true, true, true, true, true, true, true, true, true, true, true, true, true, true, true, true, true, true, true, true, true, true, false] (by rfl) (v := ?_) rfl rfl (by kernel_rfl) (by kernel_rfl) (by kernel_rfl) (by kernel_rfl) (fun _ _ _ h => h) (by rfl) ?_ (Till.mk' hS trivial) ?_
    rotate_left
    · intro W hS; go_simp; all_goals with_reducible rfl
    try simp only [List.setIfInBounds_toArray, List.set_cons_succ, List.set_cons_zero]
    refine reg_take 32 6 0 #[true, true, true, true, true, true, true, true, true, true, true, true, true, true, true, true, true, true, true, true, true, true, true, true, true, true, true, true, true, true, true, true, true] (by rfl) (v := ?_) rfl rfl (by kernel_rfl) (by kernel_rfl) (by kernel_rfl) (by kernel_rfl) (fun _ _ _ h => h) (by rfl) ?_ (Till.mk' hS trivial) ?_
    rotate_left
    · intro W hS; go_simp; all_goals with_reducible rfl
    try simp only [List.setIfInBounds_toArray, List.set_cons_succ, List.set_cons_zero]
    refine reg_done (by kernel_rfl) ?_ _
    go_wp2_with fail
    go_ret
    exact ⟨rfl, HB.out _ (TY.out.trans hS (by simp))⟩
  · go_simp
    refine (RowBytes_any (G.set k ⟨k2, n2, s2⟩) _ _ _ y4.heap.size y4 (fun x hx => (HF.out.2.2.1 x hx).2) ((hS.slice HBs.out (Nat.le_refl _) (by simp)).more hS.size) (Nat.le_refl _) (by rw [HF.out.2.1]; omega)).mono ?_
    rintro e y5 ⟨v5, rfl, m5⟩
    have tt := m5.turns
    have sv4 := tt.slice sv4 (Nat.le_refl _) (by simp)
    have sv5 := m5.sl
    clear m5
    have hS := hS.trans tt (by simp)
    clear tt
    refine hK _ _ (Till.mk' hS trivial) ?_
    clear hK K
    try simp only [List.setIfInBounds_toArray, List.set_cons_succ, List.set_cons_zero]
    refine reg_two 14 17 15 #[true, true, true, true, true, true, true, true, true, true, true, true, true, true, true, true, true, false, false, true, false, false, false, false, false, false, false, false, false, false, false, false, false] #[true, true, true, true, true, true, true, true, true, true, true, true, true, true, false, true, true, true, false, true, false, false, false, false, false, false, false, false, false, false, false, false, false] (by kernel_rfl) rfl rfl (by rfl) (by rfl) (by kernel_rfl) (by kernel_rfl) (fun K hK => ?_) (fun K hK => ?_)
    · have hcv := conv_str (P := Try.prog) (dst := 9) (src := 29) sv4 Try.underlying29 Try.underlying5 Try.underlying9
      rw [← HSA.out] at hcv
      go_simp
      clear hcv
      refine hK _ _ (Till.mk' hS trivial) ?_
      clear hK K
      try simp only [List.setIfInBounds_toArray, List.set_cons_succ, List.set_cons_zero]
      refine reg_one 17 14 #[true, true, true, true, true, true, true, true, true, true, true, true, true, true, true, true, true, true, false, true, false, false, false, false, false, false, false, false, false, false, false, false, false] (by kernel_rfl) rfl (by rfl) (by kernel_rfl) (fun K hK => ?_)
      have hcv := conv_str (P := Try.prog) (dst := 9) (src := 29) sv5 Try.underlying29 Try.underlying5 Try.underlying9
      rw [← HSB.out] at hcv
      go_simp
      clear hcv
      refine hK _ _ (Till.mk' hS trivial) ?_
      clear hK K
      try simp only [List.setIfInBounds_toArray, List.set_cons_succ, List.set_cons_zero]
      refine reg_take 18 66 13 #[true, true, true, true, true, true, true, true, true, true, true, true, true, true, true, true, true, true, true, true, false, false, false, false, false, false, false, false, false, false, false, false, false] (by rfl) (v := ?_) rfl rfl (by kernel_rfl) (by kernel_rfl) (by kernel_rfl) (by kernel_rfl) (fun _ _ _ h => h) (by rfl) ?_ (Till.mk' hS trivial) ?_
      rotate_left
      · intro W hS; go_simp; all_goals with_reducible rfl
      try simp only [List.setIfInBounds_toArray, List.set_cons_succ, List.set_cons_zero]
      refine reg_take 20 68 12 #[true, true, true, true, true, true, true, true, true, true, true, true, true, true, true, true, true, true, true, true, true, false, false, false, false, false, false, false, false, false, false, false, false] (by rfl) (v := ?_) rfl rfl (by kernel_rfl) (by kernel_rfl) (by kernel_rfl) (by kernel_rfl) (fun _ _ _ h => h) (by rfl) ?_ (Till.mk' hS trivial) ?_
      rotate_left
      · intro W hS; go_simp; all_goals with_reducible rfl
      try simp only [List.setIfInBounds_toArray, List.set_cons_succ, List.set_cons_zero]
      refine reg_take 21 69 11 #[true, true, true, true, true, true, true, true, true, true, true, true, true, true, true, true, true, true, true, true, true, true, false, false, false, false, false, false, false, false, false, false, false] (by rfl) (v := ?_) rfl rfl (by kernel_rfl) (by kernel_rfl) (by kernel_rfl) (by kernel_rfl) (fun _ _ _ h => h) (by rfl) ?_ (Till.mk' hS trivial) ?_
      rotate_left
      · intro W hS; go_simp; all_goals with_reducible rfl
      try simp only [List.setIfInBounds_toArray, List.set_cons_succ, List.set_cons_zero]
      refine reg_take 22 70 10 #[true, true, true, true, true, true, true, true, true, true, true, true, true, true, true, true, true, true, true, true, true, true, true, false, false, false, false, false, false, false, false, false, false] (by rfl) (v := ?_) rfl rfl (by kernel_rfl) (by kernel_rfl) (by kernel_rfl) (by kernel_rfl) (fun _ _ _ h => h) (by rfl) ?_ (Till.mk' hS trivial) ?_
      rotate_left
      · intro W hS; go_simp; all_goals with_reducible rfl
      try simp only [List.setIfInBounds_toArray, List.set_cons_succ, List.set_cons_zero]
      refine reg_take 23 71 9 #[true, true, true, true, true, true, true, true, true, true, true, true, true, true, true, true, true, true, true, true, true, true, true, true, false, false, false, false, false, false, false, false, false] (by rfl) (v := ?_) rfl rfl (by kernel_rfl) (by kernel_rfl) (by kernel_rfl) (by kernel_rfl) (fun _ _ _ h => h) (by rfl) ?_ (Till.mk' hS trivial) ?_
      rotate_left
      · intro W hS; go_simp; all_goals with_reducible rfl
      try simp only [List.setIfInBounds_toArray, List.set_cons_succ, List.set_cons_zero]
      refine reg_take 24 72 8 #[true, true, true, true, true, true, true, true, true, true, true, true, true, true, true, true, true, true, true, true, true, true, true, true, true, false, false, false, false, false, false, false, false] (by rfl) (v := ?_) rfl rfl (by kernel_rfl) (by kernel_rfl) (by kernel_rfl) (by kernel_rfl) (fun _ _ _ h => h) (by rfl) ?_ (Till.mk' hS trivial) ?_
      rotate_left
      · intro W hS; go_simp; all_goals with_reducible rfl
      try simp only [List.setIfInBounds_toArray, List.set_cons_succ, List.set_cons_zero]
      refine reg_take 25 73 7 #[true, true, true, true, true, true, true, true, true, true, true, true, true, true, true, true, true, true, true, true, true, true, true, true, true, true, false, false, false, false, false, false, false] (by rfl) (v := ?_) rfl rfl (by kernel_rfl) (by kernel_rfl) (by kernel_rfl) (by kernel_rfl) (fun _ _ _ h => h) (by rfl) ?_ (Till.mk' hS trivial) ?_
      rotate_left
      · intro W hS; go_simp; all_goals with_reducible rfl
      try simp only [List.setIfInBounds_toArray, List.set_cons_succ, List.set_cons_zero]
      refine reg_take 26 74 6 #[true, true, true, true, true, true, true, true, true, true, true, true, true, true, true, true, true, true, true, true, true, true, true, true, true, true, true, false, false, false, false, false, false] (by rfl) (v := ?_) rfl rfl (by kernel_rfl) (by kernel_rfl) (by kernel_rfl) (by kernel_rfl) (fun _ _ _ h => h) (by rfl) ?_ (Till.mk' hS trivial) ?_
      rotate_left
      · intro W hS; go_simp; all_goals with_reducible rfl
      try simp only [List.setIfInBounds_toArray, List.set_cons_succ, List.set_cons_zero]
      refine reg_take 27 75 5 #[true, true, true, true, true, true, true, true, true, true, true, true, true, true, true, true, true, true, true, true, true, true, true, true, true, true, true, true, false, false, false, false, false] (by rfl) (v := ?_) rfl rfl (by kernel_rfl) (by kernel_rfl) (by kernel_rfl) (by kernel_rfl) (fun _ _ _ h => h) (by rfl) ?_ (Till.mk' hS trivial) ?_
      rotate_left
      · intro W hS; go_simp; all_goals with_reducible rfl
      try simp only [List.setIfInBounds_toArray, List.set_cons_succ, List.set_cons_zero]
      refine reg_take 28 76 4 #[true, true, true, true, true, true, true, true, true, true, true, true, true, true, true, true, true, true, true, true, true, true, true, true, true, true, true, true, true, false, false, false, false] (by rfl) (v := ?_) rfl rfl (by kernel_rfl) (by kernel_rfl) (by kernel_rfl) (by kernel_rfl) (fun _ _ _ h => h) (by rfl) ?_ (Till.mk' hS trivial) ?_
      rotate_left
      · intro W hS; go_simp; all_goals with_reducible rfl
      try simp only [List.setIfInBounds_toArray, List.set_cons_succ, List.set_cons_zero]
      refine reg_one 29 3 #[true, true, true, true, true, true, true, true, true, true, true, true, true, true, true, true, true, true, true, true, true, true, true, true, true, true, true, true, true, true, false, false, false] (by kernel_rfl) rfl (by rfl) (by kernel_rfl) (fun K hK => ?_)
      go_simp
      refine (SameV_any G (G.take N) _ _ _ _ _ _ y5.heap.size y5 ((hS.slice HA.out HLE.out (by simp)).more (Nat.le_trans HLE.out hS.size)) ((hS.slice HTK.out HLE.out (by simp)).more (Nat.le_trans HLE.out hS.size)) (Nat.le_refl _)).mono ?_
      rintro e y6 ⟨rfl, tt⟩
      rw [HSF.out]
      have hS := hS.trans tt (by simp)
      clear tt
      refine hK _ _ (Till.mk' hS trivial) ?_
      clear hK K
      try simp only [List.setIfInBounds_toArray, List.set_cons_succ, List.set_cons_zero]
      refine reg_take 30 78 2 #[true, true, true, true, true, true, true, true, true, true, true, true, true, true, true, true, true, true, true, true, true, true, true, true, true, true, true, true, true, true, true, false, false] (by rfl) (v := ?_) rfl rfl (by kernel_rfl) (by kernel_rfl) (by kernel_rfl) (by kernel_rfl) (fun _ _ _ h => h) (by rfl) ?_ (Till.mk' hS trivial) ?_
      rotate_left
      · intro W hS; go_simp; all_goals with_reducible rfl
      try simp only [List.setIfInBounds_toArray, List.set_cons_succ, List.set_cons_zero]
      refine reg_take 31 79 1 #[true, true, true, true, true, true, true, true, true, true, true, true, true, true, true, true, true, true, true, true, true, true, true, true, true, true, true, true, true, true, true, true, false] (by rfl) (v := ?_) rfl rfl (by kernel_rfl) (by kernel_rfl) (by kernel_rfl) (by kernel_rfl) (fun _ _ _ h => h) (by rfl) ?_ (Till.mk' hS trivial) ?_
      rotate_left
      · intro W hS; go_simp; all_goals with_reducible rfl
      try simp only [List.setIfInBounds_toArray, List.set_cons_succ, List.set_cons_zero]
      refine reg_take 32 6 0 #[true, true, true, true, true, true, true, true, true, true, true, true, true, true, true, true, true, true, true, true, true, true, true, true, true, true, true, true, true, true, true, true, true] (by rfl) (v := ?_) rfl rfl (by kernel_rfl) (by kernel_rfl) (by kernel_rfl) (by kernel_rfl) (fun _ _ _ h => h) (by rfl) ?_ (Till.mk' hS trivial) ?_
      rotate_left
      · intro W hS; go_simp; all_goals with_reducible rfl
      try simp only [List.setIfInBounds_toArray, List.set_cons_succ, List.set_cons_zero]
      refine reg_done (by kernel_rfl) ?_ _
      go_wp2_with fail
      go_ret
      exact ⟨rfl, HB.out _ (TY.out.trans hS (by simp))⟩
    · have hcv := conv_str (P := Try.prog) (dst := 9) (src := 29) sv5 Try.underlying29 Try.underlying5 Try.underlying9
      rw [← HSB.out] at hcv
      go_simp
      clear hcv
      refine hK _ _ (Till.mk' hS trivial) ?_
      clear hK K
      try simp only [List.setIfInBounds_toArray, List.set_cons_succ, List.set_cons_zero]
      refine reg_one 14 14 #[true, true, true, true, true, true, true, true, true, true, true, true, true, true, true, true, true, true, false, true, false, false, false, false, false, false, false, false, false, false, false, false, false] (by kernel_rfl) rfl (by rfl) (by kernel_rfl) (fun K hK => ?_)
      have hcv := conv_str (P := Try.prog) (dst := 9) (src := 29) sv4 Try.underlying29 Try.underlying5 Try.underlying9
      rw [← HSA.out] at hcv
      go_simp
      clear hcv
      refine hK _ _ (Till.mk' hS trivial) ?_
      clear hK K
      try simp only [List.setIfInBounds_toArray, List.set_cons_succ, List.set_cons_zero]
      refine reg_take 18 66 13 #[true, true, true, true, true, true, true, true, true, true, true, true, true, true, true, true, true, true, true, true, false, false, false, false, false, false, false, false, false, false, false, false, false] (by rfl) (v := ?_) rfl rfl (by kernel_rfl) (by kernel_rfl) (by kernel_rfl) (by kernel_rfl) (fun _ _ _ h => h) (by rfl) ?_ (Till.mk' hS trivial) ?_
      rotate_left
      · intro W hS; go_simp; all_goals with_reducible rfl
      try simp only [List.setIfInBounds_toArray, List.set_cons_succ, List.set_cons_zero]
      refine reg_take 20 68 12 #[true, true, true, true, true, true, true, true, true, true, true, true, true, true, true, true, true, true, true, true, true, false, false, false, false, false, false, false, false, false, false, false, false] (by rfl) (v := ?_) rfl rfl (by kernel_rfl) (by kernel_rfl) (by kernel_rfl) (by kernel_rfl) (fun _ _ _ h => h) (by rfl) ?_ (Till.mk' hS trivial) ?_
      rotate_left
      · intro W hS; go_simp; all_goals with_reducible rfl
      try simp only [List.setIfInBounds_toArray, List.set_cons_succ, List.set_cons_zero]
      refine reg_take 21 69 11 #[true, true, true, true, true, true, true, true, true, true, true, true, true, true, true, true, true, true, true, true, true, true, false, false, false, false, false, false, false, false, false, false, false] (by rfl) (v := ?_) rfl rfl (by kernel_rfl) (by kernel_rfl) (by kernel_rfl) (by kernel_rfl) (fun _ _ _ h => h) (by rfl) ?_ (Till.mk' hS trivial) ?_
      rotate_left
      · intro W hS; go_simp; all_goals with_reducible rfl
      try simp only [List.setIfInBounds_toArray, List.set_cons_succ, List.set_cons_zero]
      refine reg_take 22 70 10 #[true, true, true, true, true, true, true, true, true, true, true, true, true, true, true, true, true, true, true, true, true, true, true, false, false, false, false, false, false, false, false, false, false] (by rfl) (v := ?_) rfl rfl (by kernel_rfl) (by kernel_rfl) (by kernel_rfl) (by kernel_rfl) (fun _ _ _ h => h) (by rfl) ?_ (Till.mk' hS trivial) ?_
      rotate_left
      · intro W hS; go_simp; all_goals with_reducible rfl
      try simp only [List.setIfInBounds_toArray, List.set_cons_succ, List.set_cons_zero]
      refine reg_take 23 71 9 #[true, true, true, true, true, true, true, true, true, true, true, true, true, true, true, true, true, true, true, true, true, true, true, true, false, false, false, false, false, false, false, false, false] (by rfl) (v := ?_) rfl rfl (by kernel_rfl) (by kernel_rfl) (by kernel_rfl) (by kernel_rfl) (fun _ _ _ h => h) (by rfl) ?_ (Till.mk' hS trivial) ?_
      rotate_left
      · intro W hS; go_simp; all_goals with_reducible rfl
      try simp only [List.setIfInBounds_toArray, List.set_cons_succ, List.set_cons_zero]
      refine reg_take 24 72 8 #[true, true, true, true, true, true, true, true, true, true, true, true, true, true, true, true, true, true, true, true, true, true, true, true, true, false, false, false, false, false, false, false, false] (by rfl) (v := ?_) rfl rfl (by kernel_rfl) (by kernel_rfl) (by kernel_rfl) (by kernel_rfl) (fun _ _ _ h => h) (by rfl) ?_ (Till.mk' hS trivial) ?_
      rotate_left
      · intro W hS; go_simp; all_goals with_reducible rfl
      try simp only [List.setIfInBounds_toArray, List.set_cons_succ, List.set_cons_zero]
      refine reg_take 25 73 7 #[true, true, true, true, true, true, true, true, true, true, true, true, true, true, true, true, true, true, true, true, true, true, true, true, true, true, false, false, false, false, false, false, false] (by rfl) (v := ?_) rfl rfl (by kernel_rfl) (by kernel_rfl) (by kernel_rfl) (by kernel_rfl) (fun _ _ _ h => h) (by rfl) ?_ (Till.mk' hS trivial) ?_
      rotate_left
      · intro W hS; go_simp; all_goals with_reducible rfl
      try simp only [List.setIfInBounds_toArray, List.set_cons_succ, List.set_cons_zero]
      refine reg_take 26 74 6 #[true, true, true, true, true, true, true, true, true, true, true, true, true, true, true, true, true, true, true, true, true, true, true, true, true, true, true, false, false, false, false, false, false] (by rfl) (v := ?_) rfl rfl (by kernel_rfl) (by kernel_rfl) (by kernel_rfl) (by kernel_rfl) (fun _ _ _ h => h) (by rfl) ?_ (Till.mk' hS trivial) ?_
      rotate_left
      · intro W hS; go_simp; all_goals with_reducible rfl
      try simp only [List.setIfInBounds_toArray, List.set_cons_succ, List.set_cons_zero]
      refine reg_take 27 75 5 #[true, true, true, true, true, true, true, true, true, true, true, true, true, true, true, true, true, true, true, true, true, true, true, true, true, true, true, true, false, false, false, false, false] (by rfl) (v := ?_) rfl rfl (by kernel_rfl) (by kernel_rfl) (by kernel_rfl) (by kernel_rfl) (fun _ _ _ h => h) (by rfl) ?_ (Till.mk' hS trivial) ?_
      rotate_left
      · intro W hS; go_simp; all_goals with_reducible rfl
      try simp only [List.setIfInBounds_toArray, List.set_cons_succ, List.set_cons_zero]
      refine reg_take 28 76 4 #[true, true, true, true, true, true, true, true, true, true, true, true, true, true, true, true, true, true, true, true, true, true, true, true, true, true, true, true, true, false, false, false, false] (by rfl) (v := ?_) rfl rfl (by kernel_rfl) (by kernel_rfl) (by kernel_rfl) (by kernel_rfl) (fun _ _ _ h => h) (by rfl) ?_ (Till.mk' hS trivial) ?_
      rotate_left
      · intro W hS; go_simp; all_goals with_reducible rfl
      try simp only [List.setIfInBounds_toArray, List.set_cons_succ, List.set_cons_zero]
      refine reg_one 29 3 #[true, true, true, true, true, true, true, true, true, true, true, true, true, true, true, true, true, true, true, true, true, true, true, true, true, true, true, true, true, true, false, false, false] (by kernel_rfl) rfl (by rfl) (by kernel_rfl) (fun K hK => ?_)
      go_simp
      refine (SameV_any G (G.take N) _ _ _ _ _ _ y5.heap.size y5 ((hS.slice HA.out HLE.out (by simp)).more (Nat.le_trans HLE.out hS.size)) ((hS.slice HTK.out HLE.out (by simp)).more (Nat.le_trans HLE.out hS.size)) (Nat.le_refl _)).mono ?_
      rintro e y6 ⟨rfl, tt⟩
      rw [HSF.out]
      have hS := hS.trans tt (by simp)
      clear tt
      refine hK _ _ (Till.mk' hS trivial) ?_
      clear hK K
      try simp only [List.setIfInBounds_toArray, List.set_cons_succ, List.set_cons_zero]
      refine reg_take 30 78 2 #[true, true, true, true, true, true, true, true, true, true, true, true, true, true, true, true, true, true, true, true, true, true, true, true, true, true, true, true, true, true, true, false, false] (by rfl) (v := ?_) rfl rfl (by kernel_rfl) (by kernel_rfl) (by kernel_rfl) (by kernel_rfl) (fun _ _ _ h => h) (by rfl) ?_ (Till.mk' hS trivial) ?_
      rotate_left
      · intro W hS; go_simp; all_goals with_reducible rfl
      try simp only [List.setIfInBounds_toArray, List.set_cons_succ, List.set_cons_zero]
      refine reg_take 31 79 1 #[true, true, true, true, true, true, true, true, true, true, true, true, true, true, true, true, true, true, true, true, true, true, true, true, true, true, true, true, true, true, true, true, false] (by rfl) (v := ?_) rfl rfl (by kernel_rfl) (by kernel_rfl) (by kernel_rfl) (by kernel_rfl) (fun _ _ _ h => h) (by rfl) ?_ (Till.mk' hS trivial) ?_
      rotate_left
      · intro W hS; go_simp; all_goals with_reducible rfl
      try simp only [List.setIfInBounds_toArray, List.set_cons_succ, List.set_cons_zero]
      refine reg_take 32 6 0 #[true, true, true, true, true, true, true, true, true, true, true, true, true, true, true, true, true, true, true, true, true, true, true, true, true, true, true, true, true, true, true, true, true] (by rfl) (v := ?_) rfl rfl (by kernel_rfl) (by kernel_rfl) (by kernel_rfl) (by kernel_rfl) (fun _ _ _ h => h) (by rfl) ?_ (Till.mk' hS trivial) ?_
      rotate_left
      · intro W hS; go_simp; all_goals with_reducible rfl
      try simp only [List.setIfInBounds_toArray, List.set_cons_succ, List.set_cons_zero]
      refine reg_done (by kernel_rfl) ?_ _
      go_wp2_with fail
      go_ret
      exact ⟨rfl, HB.out _ (TY.out.trans hS (by simp))⟩
end Go.Proofs.Ytfehhiegnhplhaa
