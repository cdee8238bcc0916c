/- The law SchemaSames, walked. -/
import Derived.Test.YtdllgnccjejhiaaSTwice
import Derived.Test.YtdllgnccjejhiaaRegm
namespace Go.Proofs.Ytdllgnccjejhiaa
open Go.RowKit
set_option linter.unusedVariables false
set_option maxRecDepth 10000
set_option linter.unusedSimpArgs false
set_option linter.unnecessarySimpa false

/-- A block is written over, whole. -/
theorem store_blk {P : Program} {W : World} {p : Nat} {cs : List Value} {t : TypeId} (h : Blk W p cs t) (vs : List Value) (hl : cs.length = vs.length) (h1 : ∀ u ∈ vs, u.oneCell' = true) :
    ∃ W', (storeCells ⟨p, 0, none⟩ vs).run P W = .ok () W' ∧ Blk W' p vs t ∧ Turns [p] W W' := by
  have th := h.there 0 vs.length (by omega)
  have hb := h.setCells vs 0
  rw [spl_whole _ _ hl] at hb
  have ht := Turns.setCells (L := [p]) (a := W) (b := p) (.inl (by simp)) vs 0 (Turns.refl [p] W)
  refine ⟨_, ?_, hb, ht⟩
  exact run_storeCells_cells (P := P) p 0 vs 0 W (fun j hj => by simpa using (th j (by simpa using hj)).1) (fun j hj => by simpa using (th j (by simpa using hj)).2) h1
theorem own_tL {L : List Nat} {w w' : World} {base : Nat} {e : TypeId} {size n : Nat} {v : Value} {xs : List Value} (h : w.ownsRow base e size v n xs) (t : Turns L w w') (hn : ∀ x ∈ L, v.ownBlock ≠ some x) : w'.ownsRow base e size v n xs := by
  obtain ⟨h1, h2⟩ := h
  refine ⟨h1, ?_⟩
  rcases h2 with h2 | ⟨g, cap, cur, hv, hg, hh, r⟩
  · exact Or.inl h2
  · refine Or.inr ⟨g, cap, cur, hv, hg, ?_, r⟩
    rw [t.block g (Array.getElem?_eq_some_iff.1 hh).1 (fun hm => hn g hm (by rw [hv]; rfl))]
    exact hh

/-- Another one. -/
def other (a b : Sch) : Prop := sameS a b = false ∧ sameS b a = false
theorem other_of {a b : Sch} (h : a ≠ b) : other a b := by
  refine ⟨?_, ?_⟩
  · cases hs : sameS a b
    · rfl
    · exact absurd ((sameS_iff a b).1 hs) h
  · cases hs : sameS b a
    · rfl
    · exact absurd ((sameS_iff b a).1 hs).symm h
theorem set_ne {l : List Col} {k : Nat} (hk : k < l.length) {c : Col} (h : l[k] ≠ c) : l ≠ l.set k c := fun e => by
  have h1 : (l.set k c)[k]'(by simpa using hk) = c := List.getElem_set_self ..
  have h2 : l[k] = (l.set k c)[k]'(by simpa using hk) := by congr 1
  exact h (h2.trans h1)
def rekind (c : Col) (n : Int) : Col := ⟨c.name, n, c.null⟩
def renull (c : Col) (b : Bool) : Col := ⟨c.name, c.kind, b⟩
theorem colCells_rekind : ∀ (l : List Col) (q : Nat) (hq : q < l.length) (t : Int), (colCells l).set (q * 3 + 1) (.int .i64 t) = colCells (l.set q (rekind l[q] t))
  | [], q, h, t => by simp at h
  | a :: l, 0, h, t => rfl
  | a :: l, q + 1, h, t => by
    have h' : q < l.length := by simpa using h
    have ih := colCells_rekind l q h' t
    rw [show (q + 1) * 3 + 1 = q * 3 + 1 + 1 + 1 + 1 by omega]
    show Value.string a.name :: Value.int .i64 a.kind :: Value.bool a.null :: (colCells l).set (q * 3 + 1) (.int .i64 t) = Value.string a.name :: Value.int .i64 a.kind :: Value.bool a.null :: colCells (l.set q (rekind l[q] t))
    rw [ih]
theorem colCells_renull : ∀ (l : List Col) (q : Nat) (hq : q < l.length) (t : Bool), (colCells l).set (q * 3 + 2) (.bool t) = colCells (l.set q (renull l[q] t))
  | [], q, h, t => by simp at h
  | a :: l, 0, h, t => rfl
  | a :: l, q + 1, h, t => by
    have h' : q < l.length := by simpa using h
    have ih := colCells_renull l q h' t
    rw [show (q + 1) * 3 + 2 = q * 3 + 2 + 1 + 1 + 1 by omega]
    show Value.string a.name :: Value.int .i64 a.kind :: Value.bool a.null :: (colCells l).set (q * 3 + 2) (.bool t) = Value.string a.name :: Value.int .i64 a.kind :: Value.bool a.null :: colCells (l.set q (renull l[q] t))
    rw [ih]
theorem colCells_take : ∀ (l : List Col) (k : Nat), (colCells l).take (k * 3) = colCells (l.take k)
  | [], k => by simp [colCells]
  | a :: l, 0 => by simp [colCells]
  | a :: l, k + 1 => by
    rw [show (k + 1) * 3 = k * 3 + 1 + 1 + 1 by omega]
    show Value.string a.name :: Value.int .i64 a.kind :: Value.bool a.null :: (colCells l).take (k * 3) = Value.string a.name :: Value.int .i64 a.kind :: Value.bool a.null :: colCells (l.take k)
    rw [colCells_take l k]
theorem Sl.cols_to {w : World} {B n c : Nat} {A : Option Addr} {l : List Col} (h : Sl w B 3 (.slice A n c) n (colCells l)) (k : Nat) (hk : k ≤ n) : Sl w B 3 (.slice A k c) k (colCells (l.take k)) := by
  obtain ⟨hl, A', c', hv, h1, h2, h3, hr⟩ := h
  injection hv with e1 _ e2
  subst e1 e2
  rw [← colCells_take]
  exact ⟨by rw [List.length_take]; omega, _, _, rfl, by omega, h2, h3, hr.take _⟩
/-- A cell of a column that lies in a row of its own. -/
theorem own_col {w : World} {base g n c : Nat} {l : List Col} (h : w.ownsRow base 27 3 (.slice (some ⟨g, 0, none⟩) n c) n (colCells l)) (k j : Nat) (hk : k < l.length) (hj : j < 3) :
    w.cell? ⟨g, k * 3 + j, none⟩ = (l[k].cells)[j]? ∧ w.frozen? ⟨g, k * 3 + j, none⟩ = false := by
  obtain ⟨b, off, e, hc⟩ := col_range (Sl.of_own h) k hk
  injection e with e
  injection e with e1 e2
  have hl : j < l[k].cells.length := by simpa [Col.cells] using hj
  have := hc j _ (List.getElem?_eq_getElem hl)
  rw [← e1, ← e2, Nat.zero_add] at this
  exact ⟨by rw [List.getElem?_eq_getElem hl]; exact this, h.frozenAt _⟩

set_option maxRecDepth 100000 in
set_option maxHeartbeats 4000000 in
theorem SchemaSames_walk (v : Value) (s : Sch) (z q : Int) (w : World) (h : SchArg w v s) (hz : -9223372036854775808 ≤ z ∧ z ≤ 9223372036854775807) (hq : -9223372036854775808 ≤ q ∧ q ≤ 9223372036854775807) :
    Calls Try.prog 7 #[v, .int .i64 z, .int .i64 q] w fun e w' => e = .returned (.bool true) ∧ Below w.heap.size w w' := by
  obtain ⟨A, n, c, rfl, hs, hf, hky, hkd⟩ := h
  have hs0 := hs.alloc (Nat.le_refl _) (.cells #[.string s.name, .slice A n c, .int .i64 s.key, .bool s.only] 30)
  have b0 := Blk.new w [.string s.name, .slice A n c, .int .i64 s.key, .bool s.only] 30
  have t0 := (Turns.refl [] w).alloc (.cells #[.string s.name, .slice A n c, .int .i64 s.key, .bool s.only] 30)
  have KN := Lib.hid (fun W => known_any W)
  go_enter Try.func7, Try.ntmps7
  go_wp2_with fail
  refine (KN.out _).mono ?_
  rintro e w1 ⟨rfl, bel1⟩
  have t1 := t0.trans (Turns.of_below (L := []) bel1) (by simp)
  have b1 := b0.turns (Turns.of_below (L := []) bel1) (by simp)
  have s1 := hs0.below_le bel1 (by simp)
  have r1 := b1.range 0 4
  rw [List.drop_zero, List.take_of_length_le (by simp)] at r1
  have z1 := t1.size
  have FW := Lib.hid (Few_any s A n c _ w1 hf s1 z1)
  have GD := fun W hB => Good_any s A n c z w.heap.size W hz hf hky hkd hB
  have hsz : (Try.prog.info? 30).map (·.size) = some ([.string s.name, .slice A n c, .int .i64 s.key, .bool s.only] : List Value).length := by kernel_rfl
  have B1 := Lib.hid (And.intro b1 (And.intro t1 s1))
  clear hs hs0 b0 t0 bel1 b1 t1 s1 KN
  go_wp2_with (first
    | (refine wpList_load_mid rfl 30 (.tmp 3) rfl w.heap.size 0 rfl _ _ r1 Try.underlying30 rfl hsz ?_)
    | fail)
  refine FW.out.mono ?_
  rintro e w2 ⟨rfl, t2⟩
  have b2 := B1.out.1.turns t2 (by simp)
  have t02 := B1.out.2.1.trans t2 (by simp)
  have s2 := t2.slice B1.out.2.2 z1 (by simp)
  have r2 := b2.range 0 4
  rw [List.drop_zero, List.take_of_length_le (by simp)] at r2
  cases hfw : fewS s
  · have bel := t02.below (Nat.le_refl _) (by simp)
    clear b2 t02 s2 r2 GD
    go_upto_region 5 with fail
    go_ret
    exact ⟨rfl, bel⟩
  have GD' := Lib.hid (GD w2 s2 t02.size)
  have B2 := Lib.hid t02
  have SL := s2
  have hz2 := t02.size
  have gp := goodL_pos s
  have gl := goodL_le s
  have hgn := goodS_len s z
  have hgo : (goodS s z).only = s.only ∧ (goodS s z).key = (goodKey s : Nat) := ⟨rfl, rfl⟩
  have hcols := goodS_goodC s z
  have hnm := goodS_name s z
  have hns := goodS_name_size s z
  generalize goodS s z = G at GD hgn hgo hcols hnm hns
  replace GD := Lib.hid GD
  have HG := Lib.hid (And.intro hgn (And.intro hgo (And.intro hcols (And.intro hnm hns))))
  clear GD' FW B1 B2 r1 t2 s2 b2 hgn hgo hcols hnm hns
  go_upto_region 5 with fail
  have T02 := Lib.hid t02
  clear t02
  go_cut [7, 8] (fun u7 u8 wx => ∃ (p7 p8 g7 c7 g8 c8 : Nat), u7 = .pointer (some ⟨p7, 0, none⟩) ∧ u8 = .pointer (some ⟨p8, 0, none⟩) ∧ Blk wx p7 [.string G.name, .slice (some ⟨g7, 0, none⟩) (goodL s) c7, .int .i64 (goodKey s : Nat), .bool s.only] 30 ∧ Blk wx p8 [.string G.name, .slice (some ⟨g8, 0, none⟩) (goodL s) c8, .int .i64 (goodKey s : Nat), .bool s.only] 30 ∧
    wx.ownsRow w2.heap.size 27 3 (.slice (some ⟨g7, 0, none⟩) (goodL s) c7) (goodL s) (colCells G.cols) ∧ wx.ownsRow w2.heap.size 27 3 (.slice (some ⟨g8, 0, none⟩) (goodL s) c8) (goodL s) (colCells G.cols) ∧
    (w2.heap.size ≤ p7 ∧ w2.heap.size ≤ p8 ∧ p7 ≠ p8 ∧ g7 ≠ p7 ∧ g7 ≠ p8 ∧ g8 ≠ p7 ∧ g8 ≠ p8 ∧ g7 ≠ g8) ∧ Turns [] w2 wx)
  case first =>
    obtain ⟨x0, hx0⟩ : ∃ x0, x0 = w2.drew := ⟨_, rfl⟩
    have hS : Turns [] w2 x0 := by rw [hx0]; exact (Turns.refl _ _).drew
    have HX := Lib.hid hx0
    clear hx0
    refine reg_begin (fun W => Turns [] w2 W) (fun _ => True) 10 10 #[false, false, false, false, false, false, false, false, false, false] (by kernel_rfl) (by kernel_rfl) (by kernel_rfl) ?_
    rw [← HX.out]
    refine reg_take_y 0 15 9 #[true, false, false, false, false, false, false, false, false, false] (by rfl) rfl rfl (by kernel_rfl) (by kernel_rfl) (by kernel_rfl) (by kernel_rfl) (fun _ _ _ h => h) (yieldsIf_load_mid (by rfl) _ _ rfl w.heap.size 0 (by rfl) _ _ (fun W hS => rangeT hS r2) Try.underlying30 rfl hsz) (Till.mk' hS trivial) ?_
    try simp only [List.setIfInBounds_toArray, List.set_cons_succ, List.set_cons_zero]
    refine reg_take 1 16 8 #[true, true, false, false, false, false, false, false, false, false] (by rfl) (v := ?_) rfl rfl (by kernel_rfl) (by kernel_rfl) (by kernel_rfl) (by kernel_rfl) (fun _ _ _ h => h) (by rfl) ?_ (Till.mk' hS trivial) ?_
    rotate_left
    · intro W hS; go_simp; all_goals with_reducible rfl
    try simp only [List.setIfInBounds_toArray, List.set_cons_succ, List.set_cons_zero]
    refine reg_take_y 3 18 7 #[true, true, false, true, false, false, false, false, false, false] (by rfl) rfl rfl (by kernel_rfl) (by kernel_rfl) (by kernel_rfl) (by kernel_rfl) (fun _ _ _ h => h) (yieldsIf_load_mid (by rfl) _ _ rfl w.heap.size 0 (by rfl) _ _ (fun W hS => rangeT hS r2) Try.underlying30 rfl hsz) (Till.mk' hS trivial) ?_
    try simp only [List.setIfInBounds_toArray, List.set_cons_succ, List.set_cons_zero]
    refine reg_take 4 19 6 #[true, true, false, true, true, false, false, false, false, false] (by rfl) (v := ?_) rfl rfl (by kernel_rfl) (by kernel_rfl) (by kernel_rfl) (by kernel_rfl) (fun _ _ _ h => h) (by rfl) ?_ (Till.mk' hS trivial) ?_
    rotate_left
    · intro W hS; go_simp; all_goals with_reducible rfl
    try simp only [List.setIfInBounds_toArray, List.set_cons_succ, List.set_cons_zero]
    refine reg_three 2 6 7 5 #[true, true, true, true, true, false, false, false, false, false] #[true, true, false, true, true, false, true, false, false, false] #[true, true, false, true, true, false, false, true, false, false] (by kernel_rfl) rfl rfl rfl (by rfl) (by rfl) (by rfl) (by kernel_rfl) (by kernel_rfl) (by kernel_rfl) (fun K hK => ?_) (fun K hK => ?_) (fun K hK => ?_)
    · go_simp
      refine (GD x0 (by exact hS.slice SL hz2 (by simp)) (Nat.le_trans hz2 hS.size)).mono ?_
      rintro e x1 ⟨g7, c7, rfl, own, tt⟩
      have zz := hS.size
      have a7 := (own.lt g7 rfl).1
      have o7 := own_more (base := w2.heap.size) own zz
      have hS := hS.trans tt (by simp)
      clear own tt zz a7
      refine hK _ _ (Till.mk' hS trivial) ?_
      clear hK K
      try simp only [List.setIfInBounds_toArray, List.set_cons_succ, List.set_cons_zero]
      refine reg_three 5 6 7 4 #[true, true, true, true, true, true, false, false, false, false] #[true, true, true, true, true, false, true, false, false, false] #[true, true, true, true, true, false, false, true, false, false] (by kernel_rfl) rfl rfl rfl (by rfl) (by rfl) (by rfl) (by kernel_rfl) (by kernel_rfl) (by kernel_rfl) (fun K hK => ?_) (fun K hK => ?_) (fun K hK => ?_)
      · go_simp
        refine (GD x1 (by exact hS.slice SL hz2 (by simp)) (Nat.le_trans hz2 hS.size)).mono ?_
        rintro e x2 ⟨g8, c8, rfl, own, tt⟩
        have zz := hS.size
        have a8 := (own.lt g8 rfl).1
        have f78 : g7 ≠ g8 := by have := (o7.lt g7 rfl).2; omega
        have o7 := own_t0 o7 tt
        have o8 := own_more (base := w2.heap.size) own zz
        have hS := hS.trans tt (by simp)
        clear own tt zz a8
        refine hK _ _ (Till.mk' hS trivial) ?_
        clear hK K
        try simp only [List.setIfInBounds_toArray, List.set_cons_succ, List.set_cons_zero]
        refine reg_two 6 7 3 #[true, true, true, true, true, true, true, false, false, false] #[true, true, true, true, true, true, false, true, false, false] (by kernel_rfl) rfl rfl (by rfl) (by rfl) (by kernel_rfl) (by kernel_rfl) (fun K hK => ?_) (fun K hK => ?_)
        · go_simp
          obtain ⟨p7, hp7⟩ : ∃ p, p = x2.heap.size := ⟨_, rfl⟩
          obtain ⟨x3, hx3⟩ : ∃ X, X = x2.alloc (.cells #[.string ⟨#[]⟩, .slice none 0 0, .int .i64 0, .bool false] 30) := ⟨_, rfl⟩
          have tt : Turns [] x2 x3 := by rw [hx3]; exact (Turns.refl _ _).alloc _
          have zz : x3.heap.size = x2.heap.size + 1 := by rw [hx3]; simp
          have e77 : g7 ≠ p7 := by have := (o7.lt g7 rfl).2; omega
          have e87 : g8 ≠ p7 := by have := (o8.lt g8 rfl).2; omega
          have o7 := own_t0 o7 tt
          have o8 := own_t0 o8 tt
          have v7 : Blk x3 p7 [.string ⟨#[]⟩, .slice none 0 0, .int .i64 0, .bool false] 30 := by rw [hx3, hp7]; exact Blk.new x2 _ _
          have b7 : w2.heap.size ≤ p7 := by have := hS.size; omega
          have hS := hS.trans tt (by simp)
          rw [← hx3, ← hp7]
          have HP7 := Lib.hid hp7
          clear hx3 zz tt hp7
          refine hK _ _ (Till.mk' hS trivial) ?_
          clear hK K
          try simp only [List.setIfInBounds_toArray, List.set_cons_succ, List.set_cons_zero]
          refine reg_one 7 2 #[true, true, true, true, true, true, true, true, false, false] (by kernel_rfl) rfl (by rfl) (by kernel_rfl) (fun K hK => ?_)
          go_simp
          obtain ⟨p8, hp8⟩ : ∃ p, p = x3.heap.size := ⟨_, rfl⟩
          obtain ⟨x4, hx4⟩ : ∃ X, X = x3.alloc (.cells #[.string ⟨#[]⟩, .slice none 0 0, .int .i64 0, .bool false] 30) := ⟨_, rfl⟩
          have tt : Turns [] x3 x4 := by rw [hx4]; exact (Turns.refl _ _).alloc _
          have zz : x4.heap.size = x3.heap.size + 1 := by rw [hx4]; simp
          have e78 : g7 ≠ p8 := by have := (o7.lt g7 rfl).2; omega
          have e88 : g8 ≠ p8 := by have := (o8.lt g8 rfl).2; omega
          have d78 : p7 ≠ p8 := by have := v7.lt; omega
          have o7 := own_t0 o7 tt
          have o8 := own_t0 o8 tt
          have v7 := v7.turns tt (by simp)
          have v8 : Blk x4 p8 [.string ⟨#[]⟩, .slice none 0 0, .int .i64 0, .bool false] 30 := by rw [hx4, hp8]; exact Blk.new x3 _ _
          have b8 : w2.heap.size ≤ p8 := by have := hS.size; omega
          have hS := hS.trans tt (by simp)
          rw [← hx4, ← hp8]
          have HP8 := Lib.hid hp8
          clear hx4 zz tt hp8
          refine hK _ _ (Till.mk' hS trivial) ?_
          clear hK K
          try simp only [List.setIfInBounds_toArray, List.set_cons_succ, List.set_cons_zero]
          refine reg_one 8 1 #[true, true, true, true, true, true, true, true, true, false] (by kernel_rfl) rfl (by rfl) (by kernel_rfl) (fun K hK => ?_)
          have h87 : p8 ≠ p7 := by first | exact d87 | exact Ne.symm d78
          have h78 := Ne.symm h87
          have q70 := v7.cell 0
          have r70 := v7.free 0
          have q71 := v7.cell 1
          have r71 := v7.free 1
          have q72 := v7.cell 2
          have r72 := v7.free 2
          have q73 := v7.cell 3
          have r73 := v7.free 3
          have q80 := v8.cell 0
          have r80 := v8.free 0
          have q81 := v8.cell 1
          have r81 := v8.free 1
          have q82 := v8.cell 2
          have r82 := v8.free 2
          have q83 := v8.cell 3
          have r83 := v8.free 3
          simp only [List.getElem?_cons_zero, List.getElem?_cons_succ] at q70 q71 q72 q73 q80 q81 q82 q83
          go_simp
          have tt : Turns [p7] x4 (x4.setCells p7 0 [.string G.name, .slice (some ⟨g7, 0, none⟩) (goodL s) c7, .int .i64 (goodKey s : Nat), .bool s.only]) := Turns.setCells (L := [p7]) (a := x4) (b := p7) (.inl (by simp)) [.string G.name, .slice (some ⟨g7, 0, none⟩) (goodL s) c7, .int .i64 (goodKey s : Nat), .bool s.only] 0 (Turns.refl [p7] x4)
          have w7 := v7.setCells [.string G.name, .slice (some ⟨g7, 0, none⟩) (goodL s) c7, .int .i64 (goodKey s : Nat), .bool s.only] 0
          rw [spl_whole _ _ (by rfl)] at w7
          have v8 := v8.turns tt (by simpa using h87)
          have o7 := own_tL o7 tt (by intro x hx; simp at hx; subst hx; intro e; simp only [Value.ownBlock] at e; injection e with e; exact absurd e e77)
          have o8 := own_tL o8 tt (by intro x hx; simp at hx; subst hx; intro e; simp only [Value.ownBlock] at e; injection e with e; exact absurd e e87)
          have hS := hS.trans tt (by intro x hx; simp at hx; exact .inr (by omega))
          clear tt
          refine hK _ _ (Till.mk' hS trivial) ?_
          clear hK K
          try simp only [List.setIfInBounds_toArray, List.set_cons_succ, List.set_cons_zero]
          refine reg_one 9 0 #[true, true, true, true, true, true, true, true, true, true] (by kernel_rfl) rfl (by rfl) (by kernel_rfl) (fun K hK => ?_)
          go_simp
          have tt : Turns [p8] (x4.setCells p7 0 [.string G.name, .slice (some ⟨g7, 0, none⟩) (goodL s) c7, .int .i64 (goodKey s : Nat), .bool s.only]) ((x4.setCells p7 0 [.string G.name, .slice (some ⟨g7, 0, none⟩) (goodL s) c7, .int .i64 (goodKey s : Nat), .bool s.only]).setCells p8 0 [.string G.name, .slice (some ⟨g8, 0, none⟩) (goodL s) c8, .int .i64 (goodKey s : Nat), .bool s.only]) := Turns.setCells (L := [p8]) (a := (x4.setCells p7 0 [.string G.name, .slice (some ⟨g7, 0, none⟩) (goodL s) c7, .int .i64 (goodKey s : Nat), .bool s.only])) (b := p8) (.inl (by simp)) [.string G.name, .slice (some ⟨g8, 0, none⟩) (goodL s) c8, .int .i64 (goodKey s : Nat), .bool s.only] 0 (Turns.refl [p8] (x4.setCells p7 0 [.string G.name, .slice (some ⟨g7, 0, none⟩) (goodL s) c7, .int .i64 (goodKey s : Nat), .bool s.only]))
          have w8 := v8.setCells [.string G.name, .slice (some ⟨g8, 0, none⟩) (goodL s) c8, .int .i64 (goodKey s : Nat), .bool s.only] 0
          rw [spl_whole _ _ (by rfl)] at w8
          have w7 := w7.turns tt (by simpa using h78)
          have o7 := own_tL o7 tt (by intro x hx; simp at hx; subst hx; intro e; simp only [Value.ownBlock] at e; injection e with e; exact absurd e e78)
          have o8 := own_tL o8 tt (by intro x hx; simp at hx; subst hx; intro e; simp only [Value.ownBlock] at e; injection e with e; exact absurd e e88)
          have hS := hS.trans tt (by intro x hx; simp at hx; exact .inr (by omega))
          clear tt
          refine hK _ _ (Till.mk' hS trivial) ?_
          clear hK K
          try simp only [List.setIfInBounds_toArray, List.set_cons_succ, List.set_cons_zero]
          refine reg_done (by kernel_rfl) ?_ _
          go_wp2_with fail
          go_meet
          exact ⟨p7, p8, g7, c7, g8, c8, rfl, rfl, w7, w8, o7, o8, ⟨b7, b8, Ne.symm h87, e77, e78, e87, e88, by first | exact f78 | exact Ne.symm f87⟩, hS⟩
        · go_simp
          obtain ⟨p8, hp8⟩ : ∃ p, p = x2.heap.size := ⟨_, rfl⟩
          obtain ⟨x3, hx3⟩ : ∃ X, X = x2.alloc (.cells #[.string ⟨#[]⟩, .slice none 0 0, .int .i64 0, .bool false] 30) := ⟨_, rfl⟩
          have tt : Turns [] x2 x3 := by rw [hx3]; exact (Turns.refl _ _).alloc _
          have zz : x3.heap.size = x2.heap.size + 1 := by rw [hx3]; simp
          have e78 : g7 ≠ p8 := by have := (o7.lt g7 rfl).2; omega
          have e88 : g8 ≠ p8 := by have := (o8.lt g8 rfl).2; omega
          have o7 := own_t0 o7 tt
          have o8 := own_t0 o8 tt
          have v8 : Blk x3 p8 [.string ⟨#[]⟩, .slice none 0 0, .int .i64 0, .bool false] 30 := by rw [hx3, hp8]; exact Blk.new x2 _ _
          have b8 : w2.heap.size ≤ p8 := by have := hS.size; omega
          have hS := hS.trans tt (by simp)
          rw [← hx3, ← hp8]
          have HP8 := Lib.hid hp8
          clear hx3 zz tt hp8
          refine hK _ _ (Till.mk' hS trivial) ?_
          clear hK K
          try simp only [List.setIfInBounds_toArray, List.set_cons_succ, List.set_cons_zero]
          refine reg_one 6 2 #[true, true, true, true, true, true, true, true, false, false] (by kernel_rfl) rfl (by rfl) (by kernel_rfl) (fun K hK => ?_)
          go_simp
          obtain ⟨p7, hp7⟩ : ∃ p, p = x3.heap.size := ⟨_, rfl⟩
          obtain ⟨x4, hx4⟩ : ∃ X, X = x3.alloc (.cells #[.string ⟨#[]⟩, .slice none 0 0, .int .i64 0, .bool false] 30) := ⟨_, rfl⟩
          have tt : Turns [] x3 x4 := by rw [hx4]; exact (Turns.refl _ _).alloc _
          have zz : x4.heap.size = x3.heap.size + 1 := by rw [hx4]; simp
          have e77 : g7 ≠ p7 := by have := (o7.lt g7 rfl).2; omega
          have e87 : g8 ≠ p7 := by have := (o8.lt g8 rfl).2; omega
          have d87 : p8 ≠ p7 := by have := v8.lt; omega
          have o7 := own_t0 o7 tt
          have o8 := own_t0 o8 tt
          have v8 := v8.turns tt (by simp)
          have v7 : Blk x4 p7 [.string ⟨#[]⟩, .slice none 0 0, .int .i64 0, .bool false] 30 := by rw [hx4, hp7]; exact Blk.new x3 _ _
          have b7 : w2.heap.size ≤ p7 := by have := hS.size; omega
          have hS := hS.trans tt (by simp)
          rw [← hx4, ← hp7]
          have HP7 := Lib.hid hp7
          clear hx4 zz tt hp7
          refine hK _ _ (Till.mk' hS trivial) ?_
          clear hK K
          try simp only [List.setIfInBounds_toArray, List.set_cons_succ, List.set_cons_zero]
          refine reg_one 8 1 #[true, true, true, true, true, true, true, true, true, false] (by kernel_rfl) rfl (by rfl) (by kernel_rfl) (fun K hK => ?_)
          have h87 : p8 ≠ p7 := by first | exact d87 | exact Ne.symm d78
          have h78 := Ne.symm h87
          have q70 := v7.cell 0
          have r70 := v7.free 0
          have q71 := v7.cell 1
          have r71 := v7.free 1
          have q72 := v7.cell 2
          have r72 := v7.free 2
          have q73 := v7.cell 3
          have r73 := v7.free 3
          have q80 := v8.cell 0
          have r80 := v8.free 0
          have q81 := v8.cell 1
          have r81 := v8.free 1
          have q82 := v8.cell 2
          have r82 := v8.free 2
          have q83 := v8.cell 3
          have r83 := v8.free 3
          simp only [List.getElem?_cons_zero, List.getElem?_cons_succ] at q70 q71 q72 q73 q80 q81 q82 q83
          go_simp
          have tt : Turns [p7] x4 (x4.setCells p7 0 [.string G.name, .slice (some ⟨g7, 0, none⟩) (goodL s) c7, .int .i64 (goodKey s : Nat), .bool s.only]) := Turns.setCells (L := [p7]) (a := x4) (b := p7) (.inl (by simp)) [.string G.name, .slice (some ⟨g7, 0, none⟩) (goodL s) c7, .int .i64 (goodKey s : Nat), .bool s.only] 0 (Turns.refl [p7] x4)
          have w7 := v7.setCells [.string G.name, .slice (some ⟨g7, 0, none⟩) (goodL s) c7, .int .i64 (goodKey s : Nat), .bool s.only] 0
          rw [spl_whole _ _ (by rfl)] at w7
          have v8 := v8.turns tt (by simpa using h87)
          have o7 := own_tL o7 tt (by intro x hx; simp at hx; subst hx; intro e; simp only [Value.ownBlock] at e; injection e with e; exact absurd e e77)
          have o8 := own_tL o8 tt (by intro x hx; simp at hx; subst hx; intro e; simp only [Value.ownBlock] at e; injection e with e; exact absurd e e87)
          have hS := hS.trans tt (by intro x hx; simp at hx; exact .inr (by omega))
          clear tt
          refine hK _ _ (Till.mk' hS trivial) ?_
          clear hK K
          try simp only [List.setIfInBounds_toArray, List.set_cons_succ, List.set_cons_zero]
          refine reg_one 9 0 #[true, true, true, true, true, true, true, true, true, true] (by kernel_rfl) rfl (by rfl) (by kernel_rfl) (fun K hK => ?_)
          go_simp
          have tt : Turns [p8] (x4.setCells p7 0 [.string G.name, .slice (some ⟨g7, 0, none⟩) (goodL s) c7, .int .i64 (goodKey s : Nat), .bool s.only]) ((x4.setCells p7 0 [.string G.name, .slice (some ⟨g7, 0, none⟩) (goodL s) c7, .int .i64 (goodKey s : Nat), .bool s.only]).setCells p8 0 [.string G.name, .slice (some ⟨g8, 0, none⟩) (goodL s) c8, .int .i64 (goodKey s : Nat), .bool s.only]) := Turns.setCells (L := [p8]) (a := (x4.setCells p7 0 [.string G.name, .slice (some ⟨g7, 0, none⟩) (goodL s) c7, .int .i64 (goodKey s : Nat), .bool s.only])) (b := p8) (.inl (by simp)) [.string G.name, .slice (some ⟨g8, 0, none⟩) (goodL s) c8, .int .i64 (goodKey s : Nat), .bool s.only] 0 (Turns.refl [p8] (x4.setCells p7 0 [.string G.name, .slice (some ⟨g7, 0, none⟩) (goodL s) c7, .int .i64 (goodKey s : Nat), .bool s.only]))
          have w8 := v8.setCells [.string G.name, .slice (some ⟨g8, 0, none⟩) (goodL s) c8, .int .i64 (goodKey s : Nat), .bool s.only] 0
          rw [spl_whole _ _ (by rfl)] at w8
          have w7 := w7.turns tt (by simpa using h78)
          have o7 := own_tL o7 tt (by intro x hx; simp at hx; subst hx; intro e; simp only [Value.ownBlock] at e; injection e with e; exact absurd e e78)
          have o8 := own_tL o8 tt (by intro x hx; simp at hx; subst hx; intro e; simp only [Value.ownBlock] at e; injection e with e; exact absurd e e88)
          have hS := hS.trans tt (by intro x hx; simp at hx; exact .inr (by omega))
          clear tt
          refine hK _ _ (Till.mk' hS trivial) ?_
          clear hK K
          try simp only [List.setIfInBounds_toArray, List.set_cons_succ, List.set_cons_zero]
          refine reg_done (by kernel_rfl) ?_ _
          go_wp2_with fail
          go_meet
          exact ⟨p7, p8, g7, c7, g8, c8, rfl, rfl, w7, w8, o7, o8, ⟨b7, b8, Ne.symm h87, e77, e78, e87, e88, by first | exact f78 | exact Ne.symm f87⟩, hS⟩
      · go_simp
        obtain ⟨p7, hp7⟩ : ∃ p, p = x1.heap.size := ⟨_, rfl⟩
        obtain ⟨x2, hx2⟩ : ∃ X, X = x1.alloc (.cells #[.string ⟨#[]⟩, .slice none 0 0, .int .i64 0, .bool false] 30) := ⟨_, rfl⟩
        have tt : Turns [] x1 x2 := by rw [hx2]; exact (Turns.refl _ _).alloc _
        have zz : x2.heap.size = x1.heap.size + 1 := by rw [hx2]; simp
        have e77 : g7 ≠ p7 := by have := (o7.lt g7 rfl).2; omega
        have o7 := own_t0 o7 tt
        have v7 : Blk x2 p7 [.string ⟨#[]⟩, .slice none 0 0, .int .i64 0, .bool false] 30 := by rw [hx2, hp7]; exact Blk.new x1 _ _
        have b7 : w2.heap.size ≤ p7 := by have := hS.size; omega
        have hS := hS.trans tt (by simp)
        rw [← hx2, ← hp7]
        have HP7 := Lib.hid hp7
        clear hx2 zz tt hp7
        refine hK _ _ (Till.mk' hS trivial) ?_
        clear hK K
        try simp only [List.setIfInBounds_toArray, List.set_cons_succ, List.set_cons_zero]
        refine reg_two 5 7 3 #[true, true, true, true, true, true, true, false, false, false] #[true, true, true, true, true, false, true, true, false, false] (by kernel_rfl) rfl rfl (by rfl) (by rfl) (by kernel_rfl) (by kernel_rfl) (fun K hK => ?_) (fun K hK => ?_)
        · go_simp
          refine (GD x2 (by exact hS.slice SL hz2 (by simp)) (Nat.le_trans hz2 hS.size)).mono ?_
          rintro e x3 ⟨g8, c8, rfl, own, tt⟩
          have zz := hS.size
          have a8 := (own.lt g8 rfl).1
          have f78 : g7 ≠ g8 := by have := (o7.lt g7 rfl).2; omega
          have e87 : g8 ≠ p7 := by have := v7.lt; omega
          have o7 := own_t0 o7 tt
          have v7 := v7.turns tt (by simp)
          have o8 := own_more (base := w2.heap.size) own zz
          have hS := hS.trans tt (by simp)
          clear own tt zz a8
          refine hK _ _ (Till.mk' hS trivial) ?_
          clear hK K
          try simp only [List.setIfInBounds_toArray, List.set_cons_succ, List.set_cons_zero]
          refine reg_one 7 2 #[true, true, true, true, true, true, true, true, false, false] (by kernel_rfl) rfl (by rfl) (by kernel_rfl) (fun K hK => ?_)
          go_simp
          obtain ⟨p8, hp8⟩ : ∃ p, p = x3.heap.size := ⟨_, rfl⟩
          obtain ⟨x4, hx4⟩ : ∃ X, X = x3.alloc (.cells #[.string ⟨#[]⟩, .slice none 0 0, .int .i64 0, .bool false] 30) := ⟨_, rfl⟩
          have tt : Turns [] x3 x4 := by rw [hx4]; exact (Turns.refl _ _).alloc _
          have zz : x4.heap.size = x3.heap.size + 1 := by rw [hx4]; simp
          have e78 : g7 ≠ p8 := by have := (o7.lt g7 rfl).2; omega
          have d78 : p7 ≠ p8 := by have := v7.lt; omega
          have e88 : g8 ≠ p8 := by have := (o8.lt g8 rfl).2; omega
          have o7 := own_t0 o7 tt
          have v7 := v7.turns tt (by simp)
          have o8 := own_t0 o8 tt
          have v8 : Blk x4 p8 [.string ⟨#[]⟩, .slice none 0 0, .int .i64 0, .bool false] 30 := by rw [hx4, hp8]; exact Blk.new x3 _ _
          have b8 : w2.heap.size ≤ p8 := by have := hS.size; omega
          have hS := hS.trans tt (by simp)
          rw [← hx4, ← hp8]
          have HP8 := Lib.hid hp8
          clear hx4 zz tt hp8
          refine hK _ _ (Till.mk' hS trivial) ?_
          clear hK K
          try simp only [List.setIfInBounds_toArray, List.set_cons_succ, List.set_cons_zero]
          refine reg_one 8 1 #[true, true, true, true, true, true, true, true, true, false] (by kernel_rfl) rfl (by rfl) (by kernel_rfl) (fun K hK => ?_)
          have h87 : p8 ≠ p7 := by first | exact d87 | exact Ne.symm d78
          have h78 := Ne.symm h87
          have q70 := v7.cell 0
          have r70 := v7.free 0
          have q71 := v7.cell 1
          have r71 := v7.free 1
          have q72 := v7.cell 2
          have r72 := v7.free 2
          have q73 := v7.cell 3
          have r73 := v7.free 3
          have q80 := v8.cell 0
          have r80 := v8.free 0
          have q81 := v8.cell 1
          have r81 := v8.free 1
          have q82 := v8.cell 2
          have r82 := v8.free 2
          have q83 := v8.cell 3
          have r83 := v8.free 3
          simp only [List.getElem?_cons_zero, List.getElem?_cons_succ] at q70 q71 q72 q73 q80 q81 q82 q83
          go_simp
          have tt : Turns [p7] x4 (x4.setCells p7 0 [.string G.name, .slice (some ⟨g7, 0, none⟩) (goodL s) c7, .int .i64 (goodKey s : Nat), .bool s.only]) := Turns.setCells (L := [p7]) (a := x4) (b := p7) (.inl (by simp)) [.string G.name, .slice (some ⟨g7, 0, none⟩) (goodL s) c7, .int .i64 (goodKey s : Nat), .bool s.only] 0 (Turns.refl [p7] x4)
          have w7 := v7.setCells [.string G.name, .slice (some ⟨g7, 0, none⟩) (goodL s) c7, .int .i64 (goodKey s : Nat), .bool s.only] 0
          rw [spl_whole _ _ (by rfl)] at w7
          have v8 := v8.turns tt (by simpa using h87)
          have o7 := own_tL o7 tt (by intro x hx; simp at hx; subst hx; intro e; simp only [Value.ownBlock] at e; injection e with e; exact absurd e e77)
          have o8 := own_tL o8 tt (by intro x hx; simp at hx; subst hx; intro e; simp only [Value.ownBlock] at e; injection e with e; exact absurd e e87)
          have hS := hS.trans tt (by intro x hx; simp at hx; exact .inr (by omega))
          clear tt
          refine hK _ _ (Till.mk' hS trivial) ?_
          clear hK K
          try simp only [List.setIfInBounds_toArray, List.set_cons_succ, List.set_cons_zero]
          refine reg_one 9 0 #[true, true, true, true, true, true, true, true, true, true] (by kernel_rfl) rfl (by rfl) (by kernel_rfl) (fun K hK => ?_)
          go_simp
          have tt : Turns [p8] (x4.setCells p7 0 [.string G.name, .slice (some ⟨g7, 0, none⟩) (goodL s) c7, .int .i64 (goodKey s : Nat), .bool s.only]) ((x4.setCells p7 0 [.string G.name, .slice (some ⟨g7, 0, none⟩) (goodL s) c7, .int .i64 (goodKey s : Nat), .bool s.only]).setCells p8 0 [.string G.name, .slice (some ⟨g8, 0, none⟩) (goodL s) c8, .int .i64 (goodKey s : Nat), .bool s.only]) := Turns.setCells (L := [p8]) (a := (x4.setCells p7 0 [.string G.name, .slice (some ⟨g7, 0, none⟩) (goodL s) c7, .int .i64 (goodKey s : Nat), .bool s.only])) (b := p8) (.inl (by simp)) [.string G.name, .slice (some ⟨g8, 0, none⟩) (goodL s) c8, .int .i64 (goodKey s : Nat), .bool s.only] 0 (Turns.refl [p8] (x4.setCells p7 0 [.string G.name, .slice (some ⟨g7, 0, none⟩) (goodL s) c7, .int .i64 (goodKey s : Nat), .bool s.only]))
          have w8 := v8.setCells [.string G.name, .slice (some ⟨g8, 0, none⟩) (goodL s) c8, .int .i64 (goodKey s : Nat), .bool s.only] 0
          rw [spl_whole _ _ (by rfl)] at w8
          have w7 := w7.turns tt (by simpa using h78)
          have o7 := own_tL o7 tt (by intro x hx; simp at hx; subst hx; intro e; simp only [Value.ownBlock] at e; injection e with e; exact absurd e e78)
          have o8 := own_tL o8 tt (by intro x hx; simp at hx; subst hx; intro e; simp only [Value.ownBlock] at e; injection e with e; exact absurd e e88)
          have hS := hS.trans tt (by intro x hx; simp at hx; exact .inr (by omega))
          clear tt
          refine hK _ _ (Till.mk' hS trivial) ?_
          clear hK K
          try simp only [List.setIfInBounds_toArray, List.set_cons_succ, List.set_cons_zero]
          refine reg_done (by kernel_rfl) ?_ _
          go_wp2_with fail
          go_meet
          exact ⟨p7, p8, g7, c7, g8, c8, rfl, rfl, w7, w8, o7, o8, ⟨b7, b8, Ne.symm h87, e77, e78, e87, e88, by first | exact f78 | exact Ne.symm f87⟩, hS⟩
        · go_simp
          obtain ⟨p8, hp8⟩ : ∃ p, p = x2.heap.size := ⟨_, rfl⟩
          obtain ⟨x3, hx3⟩ : ∃ X, X = x2.alloc (.cells #[.string ⟨#[]⟩, .slice none 0 0, .int .i64 0, .bool false] 30) := ⟨_, rfl⟩
          have tt : Turns [] x2 x3 := by rw [hx3]; exact (Turns.refl _ _).alloc _
          have zz : x3.heap.size = x2.heap.size + 1 := by rw [hx3]; simp
          have e78 : g7 ≠ p8 := by have := (o7.lt g7 rfl).2; omega
          have d78 : p7 ≠ p8 := by have := v7.lt; omega
          have o7 := own_t0 o7 tt
          have v7 := v7.turns tt (by simp)
          have v8 : Blk x3 p8 [.string ⟨#[]⟩, .slice none 0 0, .int .i64 0, .bool false] 30 := by rw [hx3, hp8]; exact Blk.new x2 _ _
          have b8 : w2.heap.size ≤ p8 := by have := hS.size; omega
          have hS := hS.trans tt (by simp)
          rw [← hx3, ← hp8]
          have HP8 := Lib.hid hp8
          clear hx3 zz tt hp8
          refine hK _ _ (Till.mk' hS trivial) ?_
          clear hK K
          try simp only [List.setIfInBounds_toArray, List.set_cons_succ, List.set_cons_zero]
          refine reg_one 5 2 #[true, true, true, true, true, true, true, true, false, false] (by kernel_rfl) rfl (by rfl) (by kernel_rfl) (fun K hK => ?_)
          go_simp
          refine (GD x3 (by exact hS.slice SL hz2 (by simp)) (Nat.le_trans hz2 hS.size)).mono ?_
          rintro e x4 ⟨g8, c8, rfl, own, tt⟩
          have zz := hS.size
          have a8 := (own.lt g8 rfl).1
          have f78 : g7 ≠ g8 := by have := (o7.lt g7 rfl).2; omega
          have e87 : g8 ≠ p7 := by have := v7.lt; omega
          have e88 : g8 ≠ p8 := by have := v8.lt; omega
          have o7 := own_t0 o7 tt
          have v7 := v7.turns tt (by simp)
          have v8 := v8.turns tt (by simp)
          have o8 := own_more (base := w2.heap.size) own zz
          have hS := hS.trans tt (by simp)
          clear own tt zz a8
          refine hK _ _ (Till.mk' hS trivial) ?_
          clear hK K
          try simp only [List.setIfInBounds_toArray, List.set_cons_succ, List.set_cons_zero]
          refine reg_one 8 1 #[true, true, true, true, true, true, true, true, true, false] (by kernel_rfl) rfl (by rfl) (by kernel_rfl) (fun K hK => ?_)
          have h87 : p8 ≠ p7 := by first | exact d87 | exact Ne.symm d78
          have h78 := Ne.symm h87
          have q70 := v7.cell 0
          have r70 := v7.free 0
          have q71 := v7.cell 1
          have r71 := v7.free 1
          have q72 := v7.cell 2
          have r72 := v7.free 2
          have q73 := v7.cell 3
          have r73 := v7.free 3
          have q80 := v8.cell 0
          have r80 := v8.free 0
          have q81 := v8.cell 1
          have r81 := v8.free 1
          have q82 := v8.cell 2
          have r82 := v8.free 2
          have q83 := v8.cell 3
          have r83 := v8.free 3
          simp only [List.getElem?_cons_zero, List.getElem?_cons_succ] at q70 q71 q72 q73 q80 q81 q82 q83
          go_simp
          have tt : Turns [p7] x4 (x4.setCells p7 0 [.string G.name, .slice (some ⟨g7, 0, none⟩) (goodL s) c7, .int .i64 (goodKey s : Nat), .bool s.only]) := Turns.setCells (L := [p7]) (a := x4) (b := p7) (.inl (by simp)) [.string G.name, .slice (some ⟨g7, 0, none⟩) (goodL s) c7, .int .i64 (goodKey s : Nat), .bool s.only] 0 (Turns.refl [p7] x4)
          have w7 := v7.setCells [.string G.name, .slice (some ⟨g7, 0, none⟩) (goodL s) c7, .int .i64 (goodKey s : Nat), .bool s.only] 0
          rw [spl_whole _ _ (by rfl)] at w7
          have v8 := v8.turns tt (by simpa using h87)
          have o7 := own_tL o7 tt (by intro x hx; simp at hx; subst hx; intro e; simp only [Value.ownBlock] at e; injection e with e; exact absurd e e77)
          have o8 := own_tL o8 tt (by intro x hx; simp at hx; subst hx; intro e; simp only [Value.ownBlock] at e; injection e with e; exact absurd e e87)
          have hS := hS.trans tt (by intro x hx; simp at hx; exact .inr (by omega))
          clear tt
          refine hK _ _ (Till.mk' hS trivial) ?_
          clear hK K
          try simp only [List.setIfInBounds_toArray, List.set_cons_succ, List.set_cons_zero]
          refine reg_one 9 0 #[true, true, true, true, true, true, true, true, true, true] (by kernel_rfl) rfl (by rfl) (by kernel_rfl) (fun K hK => ?_)
          go_simp
          have tt : Turns [p8] (x4.setCells p7 0 [.string G.name, .slice (some ⟨g7, 0, none⟩) (goodL s) c7, .int .i64 (goodKey s : Nat), .bool s.only]) ((x4.setCells p7 0 [.string G.name, .slice (some ⟨g7, 0, none⟩) (goodL s) c7, .int .i64 (goodKey s : Nat), .bool s.only]).setCells p8 0 [.string G.name, .slice (some ⟨g8, 0, none⟩) (goodL s) c8, .int .i64 (goodKey s : Nat), .bool s.only]) := Turns.setCells (L := [p8]) (a := (x4.setCells p7 0 [.string G.name, .slice (some ⟨g7, 0, none⟩) (goodL s) c7, .int .i64 (goodKey s : Nat), .bool s.only])) (b := p8) (.inl (by simp)) [.string G.name, .slice (some ⟨g8, 0, none⟩) (goodL s) c8, .int .i64 (goodKey s : Nat), .bool s.only] 0 (Turns.refl [p8] (x4.setCells p7 0 [.string G.name, .slice (some ⟨g7, 0, none⟩) (goodL s) c7, .int .i64 (goodKey s : Nat), .bool s.only]))
          have w8 := v8.setCells [.string G.name, .slice (some ⟨g8, 0, none⟩) (goodL s) c8, .int .i64 (goodKey s : Nat), .bool s.only] 0
          rw [spl_whole _ _ (by rfl)] at w8
          have w7 := w7.turns tt (by simpa using h78)
          have o7 := own_tL o7 tt (by intro x hx; simp at hx; subst hx; intro e; simp only [Value.ownBlock] at e; injection e with e; exact absurd e e78)
          have o8 := own_tL o8 tt (by intro x hx; simp at hx; subst hx; intro e; simp only [Value.ownBlock] at e; injection e with e; exact absurd e e88)
          have hS := hS.trans tt (by intro x hx; simp at hx; exact .inr (by omega))
          clear tt
          refine hK _ _ (Till.mk' hS trivial) ?_
          clear hK K
          try simp only [List.setIfInBounds_toArray, List.set_cons_succ, List.set_cons_zero]
          refine reg_done (by kernel_rfl) ?_ _
          go_wp2_with fail
          go_meet
          exact ⟨p7, p8, g7, c7, g8, c8, rfl, rfl, w7, w8, o7, o8, ⟨b7, b8, Ne.symm h87, e77, e78, e87, e88, by first | exact f78 | exact Ne.symm f87⟩, hS⟩
      · go_simp
        obtain ⟨p8, hp8⟩ : ∃ p, p = x1.heap.size := ⟨_, rfl⟩
        obtain ⟨x2, hx2⟩ : ∃ X, X = x1.alloc (.cells #[.string ⟨#[]⟩, .slice none 0 0, .int .i64 0, .bool false] 30) := ⟨_, rfl⟩
        have tt : Turns [] x1 x2 := by rw [hx2]; exact (Turns.refl _ _).alloc _
        have zz : x2.heap.size = x1.heap.size + 1 := by rw [hx2]; simp
        have e78 : g7 ≠ p8 := by have := (o7.lt g7 rfl).2; omega
        have o7 := own_t0 o7 tt
        have v8 : Blk x2 p8 [.string ⟨#[]⟩, .slice none 0 0, .int .i64 0, .bool false] 30 := by rw [hx2, hp8]; exact Blk.new x1 _ _
        have b8 : w2.heap.size ≤ p8 := by have := hS.size; omega
        have hS := hS.trans tt (by simp)
        rw [← hx2, ← hp8]
        have HP8 := Lib.hid hp8
        clear hx2 zz tt hp8
        refine hK _ _ (Till.mk' hS trivial) ?_
        clear hK K
        try simp only [List.setIfInBounds_toArray, List.set_cons_succ, List.set_cons_zero]
        refine reg_two 5 6 3 #[true, true, true, true, true, true, false, true, false, false] #[true, true, true, true, true, false, true, true, false, false] (by kernel_rfl) rfl rfl (by rfl) (by rfl) (by kernel_rfl) (by kernel_rfl) (fun K hK => ?_) (fun K hK => ?_)
        · go_simp
          refine (GD x2 (by exact hS.slice SL hz2 (by simp)) (Nat.le_trans hz2 hS.size)).mono ?_
          rintro e x3 ⟨g8, c8, rfl, own, tt⟩
          have zz := hS.size
          have a8 := (own.lt g8 rfl).1
          have f78 : g7 ≠ g8 := by have := (o7.lt g7 rfl).2; omega
          have e88 : g8 ≠ p8 := by have := v8.lt; omega
          have o7 := own_t0 o7 tt
          have v8 := v8.turns tt (by simp)
          have o8 := own_more (base := w2.heap.size) own zz
          have hS := hS.trans tt (by simp)
          clear own tt zz a8
          refine hK _ _ (Till.mk' hS trivial) ?_
          clear hK K
          try simp only [List.setIfInBounds_toArray, List.set_cons_succ, List.set_cons_zero]
          refine reg_one 6 2 #[true, true, true, true, true, true, true, true, false, false] (by kernel_rfl) rfl (by rfl) (by kernel_rfl) (fun K hK => ?_)
          go_simp
          obtain ⟨p7, hp7⟩ : ∃ p, p = x3.heap.size := ⟨_, rfl⟩
          obtain ⟨x4, hx4⟩ : ∃ X, X = x3.alloc (.cells #[.string ⟨#[]⟩, .slice none 0 0, .int .i64 0, .bool false] 30) := ⟨_, rfl⟩
          have tt : Turns [] x3 x4 := by rw [hx4]; exact (Turns.refl _ _).alloc _
          have zz : x4.heap.size = x3.heap.size + 1 := by rw [hx4]; simp
          have e77 : g7 ≠ p7 := by have := (o7.lt g7 rfl).2; omega
          have d87 : p8 ≠ p7 := by have := v8.lt; omega
          have e87 : g8 ≠ p7 := by have := (o8.lt g8 rfl).2; omega
          have o7 := own_t0 o7 tt
          have v8 := v8.turns tt (by simp)
          have o8 := own_t0 o8 tt
          have v7 : Blk x4 p7 [.string ⟨#[]⟩, .slice none 0 0, .int .i64 0, .bool false] 30 := by rw [hx4, hp7]; exact Blk.new x3 _ _
          have b7 : w2.heap.size ≤ p7 := by have := hS.size; omega
          have hS := hS.trans tt (by simp)
          rw [← hx4, ← hp7]
          have HP7 := Lib.hid hp7
          clear hx4 zz tt hp7
          refine hK _ _ (Till.mk' hS trivial) ?_
          clear hK K
          try simp only [List.setIfInBounds_toArray, List.set_cons_succ, List.set_cons_zero]
          refine reg_one 8 1 #[true, true, true, true, true, true, true, true, true, false] (by kernel_rfl) rfl (by rfl) (by kernel_rfl) (fun K hK => ?_)
          have h87 : p8 ≠ p7 := by first | exact d87 | exact Ne.symm d78
          have h78 := Ne.symm h87
          have q70 := v7.cell 0
          have r70 := v7.free 0
          have q71 := v7.cell 1
          have r71 := v7.free 1
          have q72 := v7.cell 2
          have r72 := v7.free 2
          have q73 := v7.cell 3
          have r73 := v7.free 3
          have q80 := v8.cell 0
          have r80 := v8.free 0
          have q81 := v8.cell 1
          have r81 := v8.free 1
          have q82 := v8.cell 2
          have r82 := v8.free 2
          have q83 := v8.cell 3
          have r83 := v8.free 3
          simp only [List.getElem?_cons_zero, List.getElem?_cons_succ] at q70 q71 q72 q73 q80 q81 q82 q83
          go_simp
          have tt : Turns [p7] x4 (x4.setCells p7 0 [.string G.name, .slice (some ⟨g7, 0, none⟩) (goodL s) c7, .int .i64 (goodKey s : Nat), .bool s.only]) := Turns.setCells (L := [p7]) (a := x4) (b := p7) (.inl (by simp)) [.string G.name, .slice (some ⟨g7, 0, none⟩) (goodL s) c7, .int .i64 (goodKey s : Nat), .bool s.only] 0 (Turns.refl [p7] x4)
          have w7 := v7.setCells [.string G.name, .slice (some ⟨g7, 0, none⟩) (goodL s) c7, .int .i64 (goodKey s : Nat), .bool s.only] 0
          rw [spl_whole _ _ (by rfl)] at w7
          have v8 := v8.turns tt (by simpa using h87)
          have o7 := own_tL o7 tt (by intro x hx; simp at hx; subst hx; intro e; simp only [Value.ownBlock] at e; injection e with e; exact absurd e e77)
          have o8 := own_tL o8 tt (by intro x hx; simp at hx; subst hx; intro e; simp only [Value.ownBlock] at e; injection e with e; exact absurd e e87)
          have hS := hS.trans tt (by intro x hx; simp at hx; exact .inr (by omega))
          clear tt
          refine hK _ _ (Till.mk' hS trivial) ?_
          clear hK K
          try simp only [List.setIfInBounds_toArray, List.set_cons_succ, List.set_cons_zero]
          refine reg_one 9 0 #[true, true, true, true, true, true, true, true, true, true] (by kernel_rfl) rfl (by rfl) (by kernel_rfl) (fun K hK => ?_)
          go_simp
          have tt : Turns [p8] (x4.setCells p7 0 [.string G.name, .slice (some ⟨g7, 0, none⟩) (goodL s) c7, .int .i64 (goodKey s : Nat), .bool s.only]) ((x4.setCells p7 0 [.string G.name, .slice (some ⟨g7, 0, none⟩) (goodL s) c7, .int .i64 (goodKey s : Nat), .bool s.only]).setCells p8 0 [.string G.name, .slice (some ⟨g8, 0, none⟩) (goodL s) c8, .int .i64 (goodKey s : Nat), .bool s.only]) := Turns.setCells (L := [p8]) (a := (x4.setCells p7 0 [.string G.name, .slice (some ⟨g7, 0, none⟩) (goodL s) c7, .int .i64 (goodKey s : Nat), .bool s.only])) (b := p8) (.inl (by simp)) [.string G.name, .slice (some ⟨g8, 0, none⟩) (goodL s) c8, .int .i64 (goodKey s : Nat), .bool s.only] 0 (Turns.refl [p8] (x4.setCells p7 0 [.string G.name, .slice (some ⟨g7, 0, none⟩) (goodL s) c7, .int .i64 (goodKey s : Nat), .bool s.only]))
          have w8 := v8.setCells [.string G.name, .slice (some ⟨g8, 0, none⟩) (goodL s) c8, .int .i64 (goodKey s : Nat), .bool s.only] 0
          rw [spl_whole _ _ (by rfl)] at w8
          have w7 := w7.turns tt (by simpa using h78)
          have o7 := own_tL o7 tt (by intro x hx; simp at hx; subst hx; intro e; simp only [Value.ownBlock] at e; injection e with e; exact absurd e e78)
          have o8 := own_tL o8 tt (by intro x hx; simp at hx; subst hx; intro e; simp only [Value.ownBlock] at e; injection e with e; exact absurd e e88)
          have hS := hS.trans tt (by intro x hx; simp at hx; exact .inr (by omega))
          clear tt
          refine hK _ _ (Till.mk' hS trivial) ?_
          clear hK K
          try simp only [List.setIfInBounds_toArray, List.set_cons_succ, List.set_cons_zero]
          refine reg_done (by kernel_rfl) ?_ _
          go_wp2_with fail
          go_meet
          exact ⟨p7, p8, g7, c7, g8, c8, rfl, rfl, w7, w8, o7, o8, ⟨b7, b8, Ne.symm h87, e77, e78, e87, e88, by first | exact f78 | exact Ne.symm f87⟩, hS⟩
        · go_simp
          obtain ⟨p7, hp7⟩ : ∃ p, p = x2.heap.size := ⟨_, rfl⟩
          obtain ⟨x3, hx3⟩ : ∃ X, X = x2.alloc (.cells #[.string ⟨#[]⟩, .slice none 0 0, .int .i64 0, .bool false] 30) := ⟨_, rfl⟩
          have tt : Turns [] x2 x3 := by rw [hx3]; exact (Turns.refl _ _).alloc _
          have zz : x3.heap.size = x2.heap.size + 1 := by rw [hx3]; simp
          have e77 : g7 ≠ p7 := by have := (o7.lt g7 rfl).2; omega
          have d87 : p8 ≠ p7 := by have := v8.lt; omega
          have o7 := own_t0 o7 tt
          have v8 := v8.turns tt (by simp)
          have v7 : Blk x3 p7 [.string ⟨#[]⟩, .slice none 0 0, .int .i64 0, .bool false] 30 := by rw [hx3, hp7]; exact Blk.new x2 _ _
          have b7 : w2.heap.size ≤ p7 := by have := hS.size; omega
          have hS := hS.trans tt (by simp)
          rw [← hx3, ← hp7]
          have HP7 := Lib.hid hp7
          clear hx3 zz tt hp7
          refine hK _ _ (Till.mk' hS trivial) ?_
          clear hK K
          try simp only [List.setIfInBounds_toArray, List.set_cons_succ, List.set_cons_zero]
          refine reg_one 5 2 #[true, true, true, true, true, true, true, true, false, false] (by kernel_rfl) rfl (by rfl) (by kernel_rfl) (fun K hK => ?_)
          go_simp
          refine (GD x3 (by exact hS.slice SL hz2 (by simp)) (Nat.le_trans hz2 hS.size)).mono ?_
          rintro e x4 ⟨g8, c8, rfl, own, tt⟩
          have zz := hS.size
          have a8 := (own.lt g8 rfl).1
          have f78 : g7 ≠ g8 := by have := (o7.lt g7 rfl).2; omega
          have e88 : g8 ≠ p8 := by have := v8.lt; omega
          have e87 : g8 ≠ p7 := by have := v7.lt; omega
          have o7 := own_t0 o7 tt
          have v8 := v8.turns tt (by simp)
          have v7 := v7.turns tt (by simp)
          have o8 := own_more (base := w2.heap.size) own zz
          have hS := hS.trans tt (by simp)
          clear own tt zz a8
          refine hK _ _ (Till.mk' hS trivial) ?_
          clear hK K
          try simp only [List.setIfInBounds_toArray, List.set_cons_succ, List.set_cons_zero]
          refine reg_one 8 1 #[true, true, true, true, true, true, true, true, true, false] (by kernel_rfl) rfl (by rfl) (by kernel_rfl) (fun K hK => ?_)
          have h87 : p8 ≠ p7 := by first | exact d87 | exact Ne.symm d78
          have h78 := Ne.symm h87
          have q70 := v7.cell 0
          have r70 := v7.free 0
          have q71 := v7.cell 1
          have r71 := v7.free 1
          have q72 := v7.cell 2
          have r72 := v7.free 2
          have q73 := v7.cell 3
          have r73 := v7.free 3
          have q80 := v8.cell 0
          have r80 := v8.free 0
          have q81 := v8.cell 1
          have r81 := v8.free 1
          have q82 := v8.cell 2
          have r82 := v8.free 2
          have q83 := v8.cell 3
          have r83 := v8.free 3
          simp only [List.getElem?_cons_zero, List.getElem?_cons_succ] at q70 q71 q72 q73 q80 q81 q82 q83
          go_simp
          have tt : Turns [p7] x4 (x4.setCells p7 0 [.string G.name, .slice (some ⟨g7, 0, none⟩) (goodL s) c7, .int .i64 (goodKey s : Nat), .bool s.only]) := Turns.setCells (L := [p7]) (a := x4) (b := p7) (.inl (by simp)) [.string G.name, .slice (some ⟨g7, 0, none⟩) (goodL s) c7, .int .i64 (goodKey s : Nat), .bool s.only] 0 (Turns.refl [p7] x4)
          have w7 := v7.setCells [.string G.name, .slice (some ⟨g7, 0, none⟩) (goodL s) c7, .int .i64 (goodKey s : Nat), .bool s.only] 0
          rw [spl_whole _ _ (by rfl)] at w7
          have v8 := v8.turns tt (by simpa using h87)
          have o7 := own_tL o7 tt (by intro x hx; simp at hx; subst hx; intro e; simp only [Value.ownBlock] at e; injection e with e; exact absurd e e77)
          have o8 := own_tL o8 tt (by intro x hx; simp at hx; subst hx; intro e; simp only [Value.ownBlock] at e; injection e with e; exact absurd e e87)
          have hS := hS.trans tt (by intro x hx; simp at hx; exact .inr (by omega))
          clear tt
          refine hK _ _ (Till.mk' hS trivial) ?_
          clear hK K
          try simp only [List.setIfInBounds_toArray, List.set_cons_succ, List.set_cons_zero]
          refine reg_one 9 0 #[true, true, true, true, true, true, true, true, true, true] (by kernel_rfl) rfl (by rfl) (by kernel_rfl) (fun K hK => ?_)
          go_simp
          have tt : Turns [p8] (x4.setCells p7 0 [.string G.name, .slice (some ⟨g7, 0, none⟩) (goodL s) c7, .int .i64 (goodKey s : Nat), .bool s.only]) ((x4.setCells p7 0 [.string G.name, .slice (some ⟨g7, 0, none⟩) (goodL s) c7, .int .i64 (goodKey s : Nat), .bool s.only]).setCells p8 0 [.string G.name, .slice (some ⟨g8, 0, none⟩) (goodL s) c8, .int .i64 (goodKey s : Nat), .bool s.only]) := Turns.setCells (L := [p8]) (a := (x4.setCells p7 0 [.string G.name, .slice (some ⟨g7, 0, none⟩) (goodL s) c7, .int .i64 (goodKey s : Nat), .bool s.only])) (b := p8) (.inl (by simp)) [.string G.name, .slice (some ⟨g8, 0, none⟩) (goodL s) c8, .int .i64 (goodKey s : Nat), .bool s.only] 0 (Turns.refl [p8] (x4.setCells p7 0 [.string G.name, .slice (some ⟨g7, 0, none⟩) (goodL s) c7, .int .i64 (goodKey s : Nat), .bool s.only]))
          have w8 := v8.setCells [.string G.name, .slice (some ⟨g8, 0, none⟩) (goodL s) c8, .int .i64 (goodKey s : Nat), .bool s.only] 0
          rw [spl_whole _ _ (by rfl)] at w8
          have w7 := w7.turns tt (by simpa using h78)
          have o7 := own_tL o7 tt (by intro x hx; simp at hx; subst hx; intro e; simp only [Value.ownBlock] at e; injection e with e; exact absurd e e78)
          have o8 := own_tL o8 tt (by intro x hx; simp at hx; subst hx; intro e; simp only [Value.ownBlock] at e; injection e with e; exact absurd e e88)
          have hS := hS.trans tt (by intro x hx; simp at hx; exact .inr (by omega))
          clear tt
          refine hK _ _ (Till.mk' hS trivial) ?_
          clear hK K
          try simp only [List.setIfInBounds_toArray, List.set_cons_succ, List.set_cons_zero]
          refine reg_done (by kernel_rfl) ?_ _
          go_wp2_with fail
          go_meet
          exact ⟨p7, p8, g7, c7, g8, c8, rfl, rfl, w7, w8, o7, o8, ⟨b7, b8, Ne.symm h87, e77, e78, e87, e88, by first | exact f78 | exact Ne.symm f87⟩, hS⟩
    · go_simp
      obtain ⟨p7, hp7⟩ : ∃ p, p = x0.heap.size := ⟨_, rfl⟩
      obtain ⟨x1, hx1⟩ : ∃ X, X = x0.alloc (.cells #[.string ⟨#[]⟩, .slice none 0 0, .int .i64 0, .bool false] 30) := ⟨_, rfl⟩
      have tt : Turns [] x0 x1 := by rw [hx1]; exact (Turns.refl _ _).alloc _
      have zz : x1.heap.size = x0.heap.size + 1 := by rw [hx1]; simp
      have v7 : Blk x1 p7 [.string ⟨#[]⟩, .slice none 0 0, .int .i64 0, .bool false] 30 := by rw [hx1, hp7]; exact Blk.new x0 _ _
      have b7 : w2.heap.size ≤ p7 := by have := hS.size; omega
      have hS := hS.trans tt (by simp)
      rw [← hx1, ← hp7]
      have HP7 := Lib.hid hp7
      clear hx1 zz tt hp7
      refine hK _ _ (Till.mk' hS trivial) ?_
      clear hK K
      try simp only [List.setIfInBounds_toArray, List.set_cons_succ, List.set_cons_zero]
      refine reg_two 2 7 4 #[true, true, true, true, true, false, true, false, false, false] #[true, true, false, true, true, false, true, true, false, false] (by kernel_rfl) rfl rfl (by rfl) (by rfl) (by kernel_rfl) (by kernel_rfl) (fun K hK => ?_) (fun K hK => ?_)
      · go_simp
        refine (GD x1 (by exact hS.slice SL hz2 (by simp)) (Nat.le_trans hz2 hS.size)).mono ?_
        rintro e x2 ⟨g7, c7, rfl, own, tt⟩
        have zz := hS.size
        have a7 := (own.lt g7 rfl).1
        have e77 : g7 ≠ p7 := by have := v7.lt; omega
        have v7 := v7.turns tt (by simp)
        have o7 := own_more (base := w2.heap.size) own zz
        have hS := hS.trans tt (by simp)
        clear own tt zz a7
        refine hK _ _ (Till.mk' hS trivial) ?_
        clear hK K
        try simp only [List.setIfInBounds_toArray, List.set_cons_succ, List.set_cons_zero]
        refine reg_two 5 7 3 #[true, true, true, true, true, true, true, false, false, false] #[true, true, true, true, true, false, true, true, false, false] (by kernel_rfl) rfl rfl (by rfl) (by rfl) (by kernel_rfl) (by kernel_rfl) (fun K hK => ?_) (fun K hK => ?_)
        · go_simp
          refine (GD x2 (by exact hS.slice SL hz2 (by simp)) (Nat.le_trans hz2 hS.size)).mono ?_
          rintro e x3 ⟨g8, c8, rfl, own, tt⟩
          have zz := hS.size
          have a8 := (own.lt g8 rfl).1
          have e87 : g8 ≠ p7 := by have := v7.lt; omega
          have f78 : g7 ≠ g8 := by have := (o7.lt g7 rfl).2; omega
          have v7 := v7.turns tt (by simp)
          have o7 := own_t0 o7 tt
          have o8 := own_more (base := w2.heap.size) own zz
          have hS := hS.trans tt (by simp)
          clear own tt zz a8
          refine hK _ _ (Till.mk' hS trivial) ?_
          clear hK K
          try simp only [List.setIfInBounds_toArray, List.set_cons_succ, List.set_cons_zero]
          refine reg_one 7 2 #[true, true, true, true, true, true, true, true, false, false] (by kernel_rfl) rfl (by rfl) (by kernel_rfl) (fun K hK => ?_)
          go_simp
          obtain ⟨p8, hp8⟩ : ∃ p, p = x3.heap.size := ⟨_, rfl⟩
          obtain ⟨x4, hx4⟩ : ∃ X, X = x3.alloc (.cells #[.string ⟨#[]⟩, .slice none 0 0, .int .i64 0, .bool false] 30) := ⟨_, rfl⟩
          have tt : Turns [] x3 x4 := by rw [hx4]; exact (Turns.refl _ _).alloc _
          have zz : x4.heap.size = x3.heap.size + 1 := by rw [hx4]; simp
          have d78 : p7 ≠ p8 := by have := v7.lt; omega
          have e78 : g7 ≠ p8 := by have := (o7.lt g7 rfl).2; omega
          have e88 : g8 ≠ p8 := by have := (o8.lt g8 rfl).2; omega
          have v7 := v7.turns tt (by simp)
          have o7 := own_t0 o7 tt
          have o8 := own_t0 o8 tt
          have v8 : Blk x4 p8 [.string ⟨#[]⟩, .slice none 0 0, .int .i64 0, .bool false] 30 := by rw [hx4, hp8]; exact Blk.new x3 _ _
          have b8 : w2.heap.size ≤ p8 := by have := hS.size; omega
          have hS := hS.trans tt (by simp)
          rw [← hx4, ← hp8]
          have HP8 := Lib.hid hp8
          clear hx4 zz tt hp8
          refine hK _ _ (Till.mk' hS trivial) ?_
          clear hK K
          try simp only [List.setIfInBounds_toArray, List.set_cons_succ, List.set_cons_zero]
          refine reg_one 8 1 #[true, true, true, true, true, true, true, true, true, false] (by kernel_rfl) rfl (by rfl) (by kernel_rfl) (fun K hK => ?_)
          have h87 : p8 ≠ p7 := by first | exact d87 | exact Ne.symm d78
          have h78 := Ne.symm h87
          have q70 := v7.cell 0
          have r70 := v7.free 0
          have q71 := v7.cell 1
          have r71 := v7.free 1
          have q72 := v7.cell 2
          have r72 := v7.free 2
          have q73 := v7.cell 3
          have r73 := v7.free 3
          have q80 := v8.cell 0
          have r80 := v8.free 0
          have q81 := v8.cell 1
          have r81 := v8.free 1
          have q82 := v8.cell 2
          have r82 := v8.free 2
          have q83 := v8.cell 3
          have r83 := v8.free 3
          simp only [List.getElem?_cons_zero, List.getElem?_cons_succ] at q70 q71 q72 q73 q80 q81 q82 q83
          go_simp
          have tt : Turns [p7] x4 (x4.setCells p7 0 [.string G.name, .slice (some ⟨g7, 0, none⟩) (goodL s) c7, .int .i64 (goodKey s : Nat), .bool s.only]) := Turns.setCells (L := [p7]) (a := x4) (b := p7) (.inl (by simp)) [.string G.name, .slice (some ⟨g7, 0, none⟩) (goodL s) c7, .int .i64 (goodKey s : Nat), .bool s.only] 0 (Turns.refl [p7] x4)
          have w7 := v7.setCells [.string G.name, .slice (some ⟨g7, 0, none⟩) (goodL s) c7, .int .i64 (goodKey s : Nat), .bool s.only] 0
          rw [spl_whole _ _ (by rfl)] at w7
          have v8 := v8.turns tt (by simpa using h87)
          have o7 := own_tL o7 tt (by intro x hx; simp at hx; subst hx; intro e; simp only [Value.ownBlock] at e; injection e with e; exact absurd e e77)
          have o8 := own_tL o8 tt (by intro x hx; simp at hx; subst hx; intro e; simp only [Value.ownBlock] at e; injection e with e; exact absurd e e87)
          have hS := hS.trans tt (by intro x hx; simp at hx; exact .inr (by omega))
          clear tt
          refine hK _ _ (Till.mk' hS trivial) ?_
          clear hK K
          try simp only [List.setIfInBounds_toArray, List.set_cons_succ, List.set_cons_zero]
          refine reg_one 9 0 #[true, true, true, true, true, true, true, true, true, true] (by kernel_rfl) rfl (by rfl) (by kernel_rfl) (fun K hK => ?_)
          go_simp
          have tt : Turns [p8] (x4.setCells p7 0 [.string G.name, .slice (some ⟨g7, 0, none⟩) (goodL s) c7, .int .i64 (goodKey s : Nat), .bool s.only]) ((x4.setCells p7 0 [.string G.name, .slice (some ⟨g7, 0, none⟩) (goodL s) c7, .int .i64 (goodKey s : Nat), .bool s.only]).setCells p8 0 [.string G.name, .slice (some ⟨g8, 0, none⟩) (goodL s) c8, .int .i64 (goodKey s : Nat), .bool s.only]) := Turns.setCells (L := [p8]) (a := (x4.setCells p7 0 [.string G.name, .slice (some ⟨g7, 0, none⟩) (goodL s) c7, .int .i64 (goodKey s : Nat), .bool s.only])) (b := p8) (.inl (by simp)) [.string G.name, .slice (some ⟨g8, 0, none⟩) (goodL s) c8, .int .i64 (goodKey s : Nat), .bool s.only] 0 (Turns.refl [p8] (x4.setCells p7 0 [.string G.name, .slice (some ⟨g7, 0, none⟩) (goodL s) c7, .int .i64 (goodKey s : Nat), .bool s.only]))
          have w8 := v8.setCells [.string G.name, .slice (some ⟨g8, 0, none⟩) (goodL s) c8, .int .i64 (goodKey s : Nat), .bool s.only] 0
          rw [spl_whole _ _ (by rfl)] at w8
          have w7 := w7.turns tt (by simpa using h78)
          have o7 := own_tL o7 tt (by intro x hx; simp at hx; subst hx; intro e; simp only [Value.ownBlock] at e; injection e with e; exact absurd e e78)
          have o8 := own_tL o8 tt (by intro x hx; simp at hx; subst hx; intro e; simp only [Value.ownBlock] at e; injection e with e; exact absurd e e88)
          have hS := hS.trans tt (by intro x hx; simp at hx; exact .inr (by omega))
          clear tt
          refine hK _ _ (Till.mk' hS trivial) ?_
          clear hK K
          try simp only [List.setIfInBounds_toArray, List.set_cons_succ, List.set_cons_zero]
          refine reg_done (by kernel_rfl) ?_ _
          go_wp2_with fail
          go_meet
          exact ⟨p7, p8, g7, c7, g8, c8, rfl, rfl, w7, w8, o7, o8, ⟨b7, b8, Ne.symm h87, e77, e78, e87, e88, by first | exact f78 | exact Ne.symm f87⟩, hS⟩
        · go_simp
          obtain ⟨p8, hp8⟩ : ∃ p, p = x2.heap.size := ⟨_, rfl⟩
          obtain ⟨x3, hx3⟩ : ∃ X, X = x2.alloc (.cells #[.string ⟨#[]⟩, .slice none 0 0, .int .i64 0, .bool false] 30) := ⟨_, rfl⟩
          have tt : Turns [] x2 x3 := by rw [hx3]; exact (Turns.refl _ _).alloc _
          have zz : x3.heap.size = x2.heap.size + 1 := by rw [hx3]; simp
          have d78 : p7 ≠ p8 := by have := v7.lt; omega
          have e78 : g7 ≠ p8 := by have := (o7.lt g7 rfl).2; omega
          have v7 := v7.turns tt (by simp)
          have o7 := own_t0 o7 tt
          have v8 : Blk x3 p8 [.string ⟨#[]⟩, .slice none 0 0, .int .i64 0, .bool false] 30 := by rw [hx3, hp8]; exact Blk.new x2 _ _
          have b8 : w2.heap.size ≤ p8 := by have := hS.size; omega
          have hS := hS.trans tt (by simp)
          rw [← hx3, ← hp8]
          have HP8 := Lib.hid hp8
          clear hx3 zz tt hp8
          refine hK _ _ (Till.mk' hS trivial) ?_
          clear hK K
          try simp only [List.setIfInBounds_toArray, List.set_cons_succ, List.set_cons_zero]
          refine reg_one 5 2 #[true, true, true, true, true, true, true, true, false, false] (by kernel_rfl) rfl (by rfl) (by kernel_rfl) (fun K hK => ?_)
          go_simp
          refine (GD x3 (by exact hS.slice SL hz2 (by simp)) (Nat.le_trans hz2 hS.size)).mono ?_
          rintro e x4 ⟨g8, c8, rfl, own, tt⟩
          have zz := hS.size
          have a8 := (own.lt g8 rfl).1
          have e87 : g8 ≠ p7 := by have := v7.lt; omega
          have f78 : g7 ≠ g8 := by have := (o7.lt g7 rfl).2; omega
          have e88 : g8 ≠ p8 := by have := v8.lt; omega
          have v7 := v7.turns tt (by simp)
          have o7 := own_t0 o7 tt
          have v8 := v8.turns tt (by simp)
          have o8 := own_more (base := w2.heap.size) own zz
          have hS := hS.trans tt (by simp)
          clear own tt zz a8
          refine hK _ _ (Till.mk' hS trivial) ?_
          clear hK K
          try simp only [List.setIfInBounds_toArray, List.set_cons_succ, List.set_cons_zero]
          refine reg_one 8 1 #[true, true, true, true, true, true, true, true, true, false] (by kernel_rfl) rfl (by rfl) (by kernel_rfl) (fun K hK => ?_)
          have h87 : p8 ≠ p7 := by first | exact d87 | exact Ne.symm d78
          have h78 := Ne.symm h87
          have q70 := v7.cell 0
          have r70 := v7.free 0
          have q71 := v7.cell 1
          have r71 := v7.free 1
          have q72 := v7.cell 2
          have r72 := v7.free 2
          have q73 := v7.cell 3
          have r73 := v7.free 3
          have q80 := v8.cell 0
          have r80 := v8.free 0
          have q81 := v8.cell 1
          have r81 := v8.free 1
          have q82 := v8.cell 2
          have r82 := v8.free 2
          have q83 := v8.cell 3
          have r83 := v8.free 3
          simp only [List.getElem?_cons_zero, List.getElem?_cons_succ] at q70 q71 q72 q73 q80 q81 q82 q83
          go_simp
          have tt : Turns [p7] x4 (x4.setCells p7 0 [.string G.name, .slice (some ⟨g7, 0, none⟩) (goodL s) c7, .int .i64 (goodKey s : Nat), .bool s.only]) := Turns.setCells (L := [p7]) (a := x4) (b := p7) (.inl (by simp)) [.string G.name, .slice (some ⟨g7, 0, none⟩) (goodL s) c7, .int .i64 (goodKey s : Nat), .bool s.only] 0 (Turns.refl [p7] x4)
          have w7 := v7.setCells [.string G.name, .slice (some ⟨g7, 0, none⟩) (goodL s) c7, .int .i64 (goodKey s : Nat), .bool s.only] 0
          rw [spl_whole _ _ (by rfl)] at w7
          have v8 := v8.turns tt (by simpa using h87)
          have o7 := own_tL o7 tt (by intro x hx; simp at hx; subst hx; intro e; simp only [Value.ownBlock] at e; injection e with e; exact absurd e e77)
          have o8 := own_tL o8 tt (by intro x hx; simp at hx; subst hx; intro e; simp only [Value.ownBlock] at e; injection e with e; exact absurd e e87)
          have hS := hS.trans tt (by intro x hx; simp at hx; exact .inr (by omega))
          clear tt
          refine hK _ _ (Till.mk' hS trivial) ?_
          clear hK K
          try simp only [List.setIfInBounds_toArray, List.set_cons_succ, List.set_cons_zero]
          refine reg_one 9 0 #[true, true, true, true, true, true, true, true, true, true] (by kernel_rfl) rfl (by rfl) (by kernel_rfl) (fun K hK => ?_)
          go_simp
          have tt : Turns [p8] (x4.setCells p7 0 [.string G.name, .slice (some ⟨g7, 0, none⟩) (goodL s) c7, .int .i64 (goodKey s : Nat), .bool s.only]) ((x4.setCells p7 0 [.string G.name, .slice (some ⟨g7, 0, none⟩) (goodL s) c7, .int .i64 (goodKey s : Nat), .bool s.only]).setCells p8 0 [.string G.name, .slice (some ⟨g8, 0, none⟩) (goodL s) c8, .int .i64 (goodKey s : Nat), .bool s.only]) := Turns.setCells (L := [p8]) (a := (x4.setCells p7 0 [.string G.name, .slice (some ⟨g7, 0, none⟩) (goodL s) c7, .int .i64 (goodKey s : Nat), .bool s.only])) (b := p8) (.inl (by simp)) [.string G.name, .slice (some ⟨g8, 0, none⟩) (goodL s) c8, .int .i64 (goodKey s : Nat), .bool s.only] 0 (Turns.refl [p8] (x4.setCells p7 0 [.string G.name, .slice (some ⟨g7, 0, none⟩) (goodL s) c7, .int .i64 (goodKey s : Nat), .bool s.only]))
          have w8 := v8.setCells [.string G.name, .slice (some ⟨g8, 0, none⟩) (goodL s) c8, .int .i64 (goodKey s : Nat), .bool s.only] 0
          rw [spl_whole _ _ (by rfl)] at w8
          have w7 := w7.turns tt (by simpa using h78)
          have o7 := own_tL o7 tt (by intro x hx; simp at hx; subst hx; intro e; simp only [Value.ownBlock] at e; injection e with e; exact absurd e e78)
          have o8 := own_tL o8 tt (by intro x hx; simp at hx; subst hx; intro e; simp only [Value.ownBlock] at e; injection e with e; exact absurd e e88)
          have hS := hS.trans tt (by intro x hx; simp at hx; exact .inr (by omega))
          clear tt
          refine hK _ _ (Till.mk' hS trivial) ?_
          clear hK K
          try simp only [List.setIfInBounds_toArray, List.set_cons_succ, List.set_cons_zero]
          refine reg_done (by kernel_rfl) ?_ _
          go_wp2_with fail
          go_meet
          exact ⟨p7, p8, g7, c7, g8, c8, rfl, rfl, w7, w8, o7, o8, ⟨b7, b8, Ne.symm h87, e77, e78, e87, e88, by first | exact f78 | exact Ne.symm f87⟩, hS⟩
      · go_simp
        obtain ⟨p8, hp8⟩ : ∃ p, p = x1.heap.size := ⟨_, rfl⟩
        obtain ⟨x2, hx2⟩ : ∃ X, X = x1.alloc (.cells #[.string ⟨#[]⟩, .slice none 0 0, .int .i64 0, .bool false] 30) := ⟨_, rfl⟩
        have tt : Turns [] x1 x2 := by rw [hx2]; exact (Turns.refl _ _).alloc _
        have zz : x2.heap.size = x1.heap.size + 1 := by rw [hx2]; simp
        have d78 : p7 ≠ p8 := by have := v7.lt; omega
        have v7 := v7.turns tt (by simp)
        have v8 : Blk x2 p8 [.string ⟨#[]⟩, .slice none 0 0, .int .i64 0, .bool false] 30 := by rw [hx2, hp8]; exact Blk.new x1 _ _
        have b8 : w2.heap.size ≤ p8 := by have := hS.size; omega
        have hS := hS.trans tt (by simp)
        rw [← hx2, ← hp8]
        have HP8 := Lib.hid hp8
        clear hx2 zz tt hp8
        refine hK _ _ (Till.mk' hS trivial) ?_
        clear hK K
        try simp only [List.setIfInBounds_toArray, List.set_cons_succ, List.set_cons_zero]
        refine reg_one 2 3 #[true, true, true, true, true, false, true, true, false, false] (by kernel_rfl) rfl (by rfl) (by kernel_rfl) (fun K hK => ?_)
        go_simp
        refine (GD x2 (by exact hS.slice SL hz2 (by simp)) (Nat.le_trans hz2 hS.size)).mono ?_
        rintro e x3 ⟨g7, c7, rfl, own, tt⟩
        have zz := hS.size
        have a7 := (own.lt g7 rfl).1
        have e77 : g7 ≠ p7 := by have := v7.lt; omega
        have e78 : g7 ≠ p8 := by have := v8.lt; omega
        have v7 := v7.turns tt (by simp)
        have v8 := v8.turns tt (by simp)
        have o7 := own_more (base := w2.heap.size) own zz
        have hS := hS.trans tt (by simp)
        clear own tt zz a7
        refine hK _ _ (Till.mk' hS trivial) ?_
        clear hK K
        try simp only [List.setIfInBounds_toArray, List.set_cons_succ, List.set_cons_zero]
        refine reg_one 5 2 #[true, true, true, true, true, true, true, true, false, false] (by kernel_rfl) rfl (by rfl) (by kernel_rfl) (fun K hK => ?_)
        go_simp
        refine (GD x3 (by exact hS.slice SL hz2 (by simp)) (Nat.le_trans hz2 hS.size)).mono ?_
        rintro e x4 ⟨g8, c8, rfl, own, tt⟩
        have zz := hS.size
        have a8 := (own.lt g8 rfl).1
        have e87 : g8 ≠ p7 := by have := v7.lt; omega
        have e88 : g8 ≠ p8 := by have := v8.lt; omega
        have f78 : g7 ≠ g8 := by have := (o7.lt g7 rfl).2; omega
        have v7 := v7.turns tt (by simp)
        have v8 := v8.turns tt (by simp)
        have o7 := own_t0 o7 tt
        have o8 := own_more (base := w2.heap.size) own zz
        have hS := hS.trans tt (by simp)
        clear own tt zz a8
        refine hK _ _ (Till.mk' hS trivial) ?_
        clear hK K
        try simp only [List.setIfInBounds_toArray, List.set_cons_succ, List.set_cons_zero]
        refine reg_one 8 1 #[true, true, true, true, true, true, true, true, true, false] (by kernel_rfl) rfl (by rfl) (by kernel_rfl) (fun K hK => ?_)
        have h87 : p8 ≠ p7 := by first | exact d87 | exact Ne.symm d78
        have h78 := Ne.symm h87
        have q70 := v7.cell 0
        have r70 := v7.free 0
        have q71 := v7.cell 1
        have r71 := v7.free 1
        have q72 := v7.cell 2
        have r72 := v7.free 2
        have q73 := v7.cell 3
        have r73 := v7.free 3
        have q80 := v8.cell 0
        have r80 := v8.free 0
        have q81 := v8.cell 1
        have r81 := v8.free 1
        have q82 := v8.cell 2
        have r82 := v8.free 2
        have q83 := v8.cell 3
        have r83 := v8.free 3
        simp only [List.getElem?_cons_zero, List.getElem?_cons_succ] at q70 q71 q72 q73 q80 q81 q82 q83
        go_simp
        have tt : Turns [p7] x4 (x4.setCells p7 0 [.string G.name, .slice (some ⟨g7, 0, none⟩) (goodL s) c7, .int .i64 (goodKey s : Nat), .bool s.only]) := Turns.setCells (L := [p7]) (a := x4) (b := p7) (.inl (by simp)) [.string G.name, .slice (some ⟨g7, 0, none⟩) (goodL s) c7, .int .i64 (goodKey s : Nat), .bool s.only] 0 (Turns.refl [p7] x4)
        have w7 := v7.setCells [.string G.name, .slice (some ⟨g7, 0, none⟩) (goodL s) c7, .int .i64 (goodKey s : Nat), .bool s.only] 0
        rw [spl_whole _ _ (by rfl)] at w7
        have v8 := v8.turns tt (by simpa using h87)
        have o7 := own_tL o7 tt (by intro x hx; simp at hx; subst hx; intro e; simp only [Value.ownBlock] at e; injection e with e; exact absurd e e77)
        have o8 := own_tL o8 tt (by intro x hx; simp at hx; subst hx; intro e; simp only [Value.ownBlock] at e; injection e with e; exact absurd e e87)
        have hS := hS.trans tt (by intro x hx; simp at hx; exact .inr (by omega))
        clear tt
        refine hK _ _ (Till.mk' hS trivial) ?_
        clear hK K
        try simp only [List.setIfInBounds_toArray, List.set_cons_succ, List.set_cons_zero]
        refine reg_one 9 0 #[true, true, true, true, true, true, true, true, true, true] (by kernel_rfl) rfl (by rfl) (by kernel_rfl) (fun K hK => ?_)
        go_simp
        have tt : Turns [p8] (x4.setCells p7 0 [.string G.name, .slice (some ⟨g7, 0, none⟩) (goodL s) c7, .int .i64 (goodKey s : Nat), .bool s.only]) ((x4.setCells p7 0 [.string G.name, .slice (some ⟨g7, 0, none⟩) (goodL s) c7, .int .i64 (goodKey s : Nat), .bool s.only]).setCells p8 0 [.string G.name, .slice (some ⟨g8, 0, none⟩) (goodL s) c8, .int .i64 (goodKey s : Nat), .bool s.only]) := Turns.setCells (L := [p8]) (a := (x4.setCells p7 0 [.string G.name, .slice (some ⟨g7, 0, none⟩) (goodL s) c7, .int .i64 (goodKey s : Nat), .bool s.only])) (b := p8) (.inl (by simp)) [.string G.name, .slice (some ⟨g8, 0, none⟩) (goodL s) c8, .int .i64 (goodKey s : Nat), .bool s.only] 0 (Turns.refl [p8] (x4.setCells p7 0 [.string G.name, .slice (some ⟨g7, 0, none⟩) (goodL s) c7, .int .i64 (goodKey s : Nat), .bool s.only]))
        have w8 := v8.setCells [.string G.name, .slice (some ⟨g8, 0, none⟩) (goodL s) c8, .int .i64 (goodKey s : Nat), .bool s.only] 0
        rw [spl_whole _ _ (by rfl)] at w8
        have w7 := w7.turns tt (by simpa using h78)
        have o7 := own_tL o7 tt (by intro x hx; simp at hx; subst hx; intro e; simp only [Value.ownBlock] at e; injection e with e; exact absurd e e78)
        have o8 := own_tL o8 tt (by intro x hx; simp at hx; subst hx; intro e; simp only [Value.ownBlock] at e; injection e with e; exact absurd e e88)
        have hS := hS.trans tt (by intro x hx; simp at hx; exact .inr (by omega))
        clear tt
        refine hK _ _ (Till.mk' hS trivial) ?_
        clear hK K
        try simp only [List.setIfInBounds_toArray, List.set_cons_succ, List.set_cons_zero]
        refine reg_done (by kernel_rfl) ?_ _
        go_wp2_with fail
        go_meet
        exact ⟨p7, p8, g7, c7, g8, c8, rfl, rfl, w7, w8, o7, o8, ⟨b7, b8, Ne.symm h87, e77, e78, e87, e88, by first | exact f78 | exact Ne.symm f87⟩, hS⟩
    · go_simp
      obtain ⟨p8, hp8⟩ : ∃ p, p = x0.heap.size := ⟨_, rfl⟩
      obtain ⟨x1, hx1⟩ : ∃ X, X = x0.alloc (.cells #[.string ⟨#[]⟩, .slice none 0 0, .int .i64 0, .bool false] 30) := ⟨_, rfl⟩
      have tt : Turns [] x0 x1 := by rw [hx1]; exact (Turns.refl _ _).alloc _
      have zz : x1.heap.size = x0.heap.size + 1 := by rw [hx1]; simp
      have v8 : Blk x1 p8 [.string ⟨#[]⟩, .slice none 0 0, .int .i64 0, .bool false] 30 := by rw [hx1, hp8]; exact Blk.new x0 _ _
      have b8 : w2.heap.size ≤ p8 := by have := hS.size; omega
      have hS := hS.trans tt (by simp)
      rw [← hx1, ← hp8]
      have HP8 := Lib.hid hp8
      clear hx1 zz tt hp8
      refine hK _ _ (Till.mk' hS trivial) ?_
      clear hK K
      try simp only [List.setIfInBounds_toArray, List.set_cons_succ, List.set_cons_zero]
      refine reg_two 2 6 4 #[true, true, true, true, true, false, false, true, false, false] #[true, true, false, true, true, false, true, true, false, false] (by kernel_rfl) rfl rfl (by rfl) (by rfl) (by kernel_rfl) (by kernel_rfl) (fun K hK => ?_) (fun K hK => ?_)
      · go_simp
        refine (GD x1 (by exact hS.slice SL hz2 (by simp)) (Nat.le_trans hz2 hS.size)).mono ?_
        rintro e x2 ⟨g7, c7, rfl, own, tt⟩
        have zz := hS.size
        have a7 := (own.lt g7 rfl).1
        have e78 : g7 ≠ p8 := by have := v8.lt; omega
        have v8 := v8.turns tt (by simp)
        have o7 := own_more (base := w2.heap.size) own zz
        have hS := hS.trans tt (by simp)
        clear own tt zz a7
        refine hK _ _ (Till.mk' hS trivial) ?_
        clear hK K
        try simp only [List.setIfInBounds_toArray, List.set_cons_succ, List.set_cons_zero]
        refine reg_two 5 6 3 #[true, true, true, true, true, true, false, true, false, false] #[true, true, true, true, true, false, true, true, false, false] (by kernel_rfl) rfl rfl (by rfl) (by rfl) (by kernel_rfl) (by kernel_rfl) (fun K hK => ?_) (fun K hK => ?_)
        · go_simp
          refine (GD x2 (by exact hS.slice SL hz2 (by simp)) (Nat.le_trans hz2 hS.size)).mono ?_
          rintro e x3 ⟨g8, c8, rfl, own, tt⟩
          have zz := hS.size
          have a8 := (own.lt g8 rfl).1
          have e88 : g8 ≠ p8 := by have := v8.lt; omega
          have f78 : g7 ≠ g8 := by have := (o7.lt g7 rfl).2; omega
          have v8 := v8.turns tt (by simp)
          have o7 := own_t0 o7 tt
          have o8 := own_more (base := w2.heap.size) own zz
          have hS := hS.trans tt (by simp)
          clear own tt zz a8
          refine hK _ _ (Till.mk' hS trivial) ?_
          clear hK K
          try simp only [List.setIfInBounds_toArray, List.set_cons_succ, List.set_cons_zero]
          refine reg_one 6 2 #[true, true, true, true, true, true, true, true, false, false] (by kernel_rfl) rfl (by rfl) (by kernel_rfl) (fun K hK => ?_)
          go_simp
          obtain ⟨p7, hp7⟩ : ∃ p, p = x3.heap.size := ⟨_, rfl⟩
          obtain ⟨x4, hx4⟩ : ∃ X, X = x3.alloc (.cells #[.string ⟨#[]⟩, .slice none 0 0, .int .i64 0, .bool false] 30) := ⟨_, rfl⟩
          have tt : Turns [] x3 x4 := by rw [hx4]; exact (Turns.refl _ _).alloc _
          have zz : x4.heap.size = x3.heap.size + 1 := by rw [hx4]; simp
          have d87 : p8 ≠ p7 := by have := v8.lt; omega
          have e77 : g7 ≠ p7 := by have := (o7.lt g7 rfl).2; omega
          have e87 : g8 ≠ p7 := by have := (o8.lt g8 rfl).2; omega
          have v8 := v8.turns tt (by simp)
          have o7 := own_t0 o7 tt
          have o8 := own_t0 o8 tt
          have v7 : Blk x4 p7 [.string ⟨#[]⟩, .slice none 0 0, .int .i64 0, .bool false] 30 := by rw [hx4, hp7]; exact Blk.new x3 _ _
          have b7 : w2.heap.size ≤ p7 := by have := hS.size; omega
          have hS := hS.trans tt (by simp)
          rw [← hx4, ← hp7]
          have HP7 := Lib.hid hp7
          clear hx4 zz tt hp7
          refine hK _ _ (Till.mk' hS trivial) ?_
          clear hK K
          try simp only [List.setIfInBounds_toArray, List.set_cons_succ, List.set_cons_zero]
          refine reg_one 8 1 #[true, true, true, true, true, true, true, true, true, false] (by kernel_rfl) rfl (by rfl) (by kernel_rfl) (fun K hK => ?_)
          have h87 : p8 ≠ p7 := by first | exact d87 | exact Ne.symm d78
          have h78 := Ne.symm h87
          have q70 := v7.cell 0
          have r70 := v7.free 0
          have q71 := v7.cell 1
          have r71 := v7.free 1
          have q72 := v7.cell 2
          have r72 := v7.free 2
          have q73 := v7.cell 3
          have r73 := v7.free 3
          have q80 := v8.cell 0
          have r80 := v8.free 0
          have q81 := v8.cell 1
          have r81 := v8.free 1
          have q82 := v8.cell 2
          have r82 := v8.free 2
          have q83 := v8.cell 3
          have r83 := v8.free 3
          simp only [List.getElem?_cons_zero, List.getElem?_cons_succ] at q70 q71 q72 q73 q80 q81 q82 q83
          go_simp
          have tt : Turns [p7] x4 (x4.setCells p7 0 [.string G.name, .slice (some ⟨g7, 0, none⟩) (goodL s) c7, .int .i64 (goodKey s : Nat), .bool s.only]) := Turns.setCells (L := [p7]) (a := x4) (b := p7) (.inl (by simp)) [.string G.name, .slice (some ⟨g7, 0, none⟩) (goodL s) c7, .int .i64 (goodKey s : Nat), .bool s.only] 0 (Turns.refl [p7] x4)
          have w7 := v7.setCells [.string G.name, .slice (some ⟨g7, 0, none⟩) (goodL s) c7, .int .i64 (goodKey s : Nat), .bool s.only] 0
          rw [spl_whole _ _ (by rfl)] at w7
          have v8 := v8.turns tt (by simpa using h87)
          have o7 := own_tL o7 tt (by intro x hx; simp at hx; subst hx; intro e; simp only [Value.ownBlock] at e; injection e with e; exact absurd e e77)
          have o8 := own_tL o8 tt (by intro x hx; simp at hx; subst hx; intro e; simp only [Value.ownBlock] at e; injection e with e; exact absurd e e87)
          have hS := hS.trans tt (by intro x hx; simp at hx; exact .inr (by omega))
          clear tt
          refine hK _ _ (Till.mk' hS trivial) ?_
          clear hK K
          try simp only [List.setIfInBounds_toArray, List.set_cons_succ, List.set_cons_zero]
          refine reg_one 9 0 #[true, true, true, true, true, true, true, true, true, true] (by kernel_rfl) rfl (by rfl) (by kernel_rfl) (fun K hK => ?_)
          go_simp
          have tt : Turns [p8] (x4.setCells p7 0 [.string G.name, .slice (some ⟨g7, 0, none⟩) (goodL s) c7, .int .i64 (goodKey s : Nat), .bool s.only]) ((x4.setCells p7 0 [.string G.name, .slice (some ⟨g7, 0, none⟩) (goodL s) c7, .int .i64 (goodKey s : Nat), .bool s.only]).setCells p8 0 [.string G.name, .slice (some ⟨g8, 0, none⟩) (goodL s) c8, .int .i64 (goodKey s : Nat), .bool s.only]) := Turns.setCells (L := [p8]) (a := (x4.setCells p7 0 [.string G.name, .slice (some ⟨g7, 0, none⟩) (goodL s) c7, .int .i64 (goodKey s : Nat), .bool s.only])) (b := p8) (.inl (by simp)) [.string G.name, .slice (some ⟨g8, 0, none⟩) (goodL s) c8, .int .i64 (goodKey s : Nat), .bool s.only] 0 (Turns.refl [p8] (x4.setCells p7 0 [.string G.name, .slice (some ⟨g7, 0, none⟩) (goodL s) c7, .int .i64 (goodKey s : Nat), .bool s.only]))
          have w8 := v8.setCells [.string G.name, .slice (some ⟨g8, 0, none⟩) (goodL s) c8, .int .i64 (goodKey s : Nat), .bool s.only] 0
          rw [spl_whole _ _ (by rfl)] at w8
          have w7 := w7.turns tt (by simpa using h78)
          have o7 := own_tL o7 tt (by intro x hx; simp at hx; subst hx; intro e; simp only [Value.ownBlock] at e; injection e with e; exact absurd e e78)
          have o8 := own_tL o8 tt (by intro x hx; simp at hx; subst hx; intro e; simp only [Value.ownBlock] at e; injection e with e; exact absurd e e88)
          have hS := hS.trans tt (by intro x hx; simp at hx; exact .inr (by omega))
          clear tt
          refine hK _ _ (Till.mk' hS trivial) ?_
          clear hK K
          try simp only [List.setIfInBounds_toArray, List.set_cons_succ, List.set_cons_zero]
          refine reg_done (by kernel_rfl) ?_ _
          go_wp2_with fail
          go_meet
          exact ⟨p7, p8, g7, c7, g8, c8, rfl, rfl, w7, w8, o7, o8, ⟨b7, b8, Ne.symm h87, e77, e78, e87, e88, by first | exact f78 | exact Ne.symm f87⟩, hS⟩
        · go_simp
          obtain ⟨p7, hp7⟩ : ∃ p, p = x2.heap.size := ⟨_, rfl⟩
          obtain ⟨x3, hx3⟩ : ∃ X, X = x2.alloc (.cells #[.string ⟨#[]⟩, .slice none 0 0, .int .i64 0, .bool false] 30) := ⟨_, rfl⟩
          have tt : Turns [] x2 x3 := by rw [hx3]; exact (Turns.refl _ _).alloc _
          have zz : x3.heap.size = x2.heap.size + 1 := by rw [hx3]; simp
          have d87 : p8 ≠ p7 := by have := v8.lt; omega
          have e77 : g7 ≠ p7 := by have := (o7.lt g7 rfl).2; omega
          have v8 := v8.turns tt (by simp)
          have o7 := own_t0 o7 tt
          have v7 : Blk x3 p7 [.string ⟨#[]⟩, .slice none 0 0, .int .i64 0, .bool false] 30 := by rw [hx3, hp7]; exact Blk.new x2 _ _
          have b7 : w2.heap.size ≤ p7 := by have := hS.size; omega
          have hS := hS.trans tt (by simp)
          rw [← hx3, ← hp7]
          have HP7 := Lib.hid hp7
          clear hx3 zz tt hp7
          refine hK _ _ (Till.mk' hS trivial) ?_
          clear hK K
          try simp only [List.setIfInBounds_toArray, List.set_cons_succ, List.set_cons_zero]
          refine reg_one 5 2 #[true, true, true, true, true, true, true, true, false, false] (by kernel_rfl) rfl (by rfl) (by kernel_rfl) (fun K hK => ?_)
          go_simp
          refine (GD x3 (by exact hS.slice SL hz2 (by simp)) (Nat.le_trans hz2 hS.size)).mono ?_
          rintro e x4 ⟨g8, c8, rfl, own, tt⟩
          have zz := hS.size
          have a8 := (own.lt g8 rfl).1
          have e88 : g8 ≠ p8 := by have := v8.lt; omega
          have f78 : g7 ≠ g8 := by have := (o7.lt g7 rfl).2; omega
          have e87 : g8 ≠ p7 := by have := v7.lt; omega
          have v8 := v8.turns tt (by simp)
          have o7 := own_t0 o7 tt
          have v7 := v7.turns tt (by simp)
          have o8 := own_more (base := w2.heap.size) own zz
          have hS := hS.trans tt (by simp)
          clear own tt zz a8
          refine hK _ _ (Till.mk' hS trivial) ?_
          clear hK K
          try simp only [List.setIfInBounds_toArray, List.set_cons_succ, List.set_cons_zero]
          refine reg_one 8 1 #[true, true, true, true, true, true, true, true, true, false] (by kernel_rfl) rfl (by rfl) (by kernel_rfl) (fun K hK => ?_)
          have h87 : p8 ≠ p7 := by first | exact d87 | exact Ne.symm d78
          have h78 := Ne.symm h87
          have q70 := v7.cell 0
          have r70 := v7.free 0
          have q71 := v7.cell 1
          have r71 := v7.free 1
          have q72 := v7.cell 2
          have r72 := v7.free 2
          have q73 := v7.cell 3
          have r73 := v7.free 3
          have q80 := v8.cell 0
          have r80 := v8.free 0
          have q81 := v8.cell 1
          have r81 := v8.free 1
          have q82 := v8.cell 2
          have r82 := v8.free 2
          have q83 := v8.cell 3
          have r83 := v8.free 3
          simp only [List.getElem?_cons_zero, List.getElem?_cons_succ] at q70 q71 q72 q73 q80 q81 q82 q83
          go_simp
          have tt : Turns [p7] x4 (x4.setCells p7 0 [.string G.name, .slice (some ⟨g7, 0, none⟩) (goodL s) c7, .int .i64 (goodKey s : Nat), .bool s.only]) := Turns.setCells (L := [p7]) (a := x4) (b := p7) (.inl (by simp)) [.string G.name, .slice (some ⟨g7, 0, none⟩) (goodL s) c7, .int .i64 (goodKey s : Nat), .bool s.only] 0 (Turns.refl [p7] x4)
          have w7 := v7.setCells [.string G.name, .slice (some ⟨g7, 0, none⟩) (goodL s) c7, .int .i64 (goodKey s : Nat), .bool s.only] 0
          rw [spl_whole _ _ (by rfl)] at w7
          have v8 := v8.turns tt (by simpa using h87)
          have o7 := own_tL o7 tt (by intro x hx; simp at hx; subst hx; intro e; simp only [Value.ownBlock] at e; injection e with e; exact absurd e e77)
          have o8 := own_tL o8 tt (by intro x hx; simp at hx; subst hx; intro e; simp only [Value.ownBlock] at e; injection e with e; exact absurd e e87)
          have hS := hS.trans tt (by intro x hx; simp at hx; exact .inr (by omega))
          clear tt
          refine hK _ _ (Till.mk' hS trivial) ?_
          clear hK K
          try simp only [List.setIfInBounds_toArray, List.set_cons_succ, List.set_cons_zero]
          refine reg_one 9 0 #[true, true, true, true, true, true, true, true, true, true] (by kernel_rfl) rfl (by rfl) (by kernel_rfl) (fun K hK => ?_)
          go_simp
          have tt : Turns [p8] (x4.setCells p7 0 [.string G.name, .slice (some ⟨g7, 0, none⟩) (goodL s) c7, .int .i64 (goodKey s : Nat), .bool s.only]) ((x4.setCells p7 0 [.string G.name, .slice (some ⟨g7, 0, none⟩) (goodL s) c7, .int .i64 (goodKey s : Nat), .bool s.only]).setCells p8 0 [.string G.name, .slice (some ⟨g8, 0, none⟩) (goodL s) c8, .int .i64 (goodKey s : Nat), .bool s.only]) := Turns.setCells (L := [p8]) (a := (x4.setCells p7 0 [.string G.name, .slice (some ⟨g7, 0, none⟩) (goodL s) c7, .int .i64 (goodKey s : Nat), .bool s.only])) (b := p8) (.inl (by simp)) [.string G.name, .slice (some ⟨g8, 0, none⟩) (goodL s) c8, .int .i64 (goodKey s : Nat), .bool s.only] 0 (Turns.refl [p8] (x4.setCells p7 0 [.string G.name, .slice (some ⟨g7, 0, none⟩) (goodL s) c7, .int .i64 (goodKey s : Nat), .bool s.only]))
          have w8 := v8.setCells [.string G.name, .slice (some ⟨g8, 0, none⟩) (goodL s) c8, .int .i64 (goodKey s : Nat), .bool s.only] 0
          rw [spl_whole _ _ (by rfl)] at w8
          have w7 := w7.turns tt (by simpa using h78)
          have o7 := own_tL o7 tt (by intro x hx; simp at hx; subst hx; intro e; simp only [Value.ownBlock] at e; injection e with e; exact absurd e e78)
          have o8 := own_tL o8 tt (by intro x hx; simp at hx; subst hx; intro e; simp only [Value.ownBlock] at e; injection e with e; exact absurd e e88)
          have hS := hS.trans tt (by intro x hx; simp at hx; exact .inr (by omega))
          clear tt
          refine hK _ _ (Till.mk' hS trivial) ?_
          clear hK K
          try simp only [List.setIfInBounds_toArray, List.set_cons_succ, List.set_cons_zero]
          refine reg_done (by kernel_rfl) ?_ _
          go_wp2_with fail
          go_meet
          exact ⟨p7, p8, g7, c7, g8, c8, rfl, rfl, w7, w8, o7, o8, ⟨b7, b8, Ne.symm h87, e77, e78, e87, e88, by first | exact f78 | exact Ne.symm f87⟩, hS⟩
      · go_simp
        obtain ⟨p7, hp7⟩ : ∃ p, p = x1.heap.size := ⟨_, rfl⟩
        obtain ⟨x2, hx2⟩ : ∃ X, X = x1.alloc (.cells #[.string ⟨#[]⟩, .slice none 0 0, .int .i64 0, .bool false] 30) := ⟨_, rfl⟩
        have tt : Turns [] x1 x2 := by rw [hx2]; exact (Turns.refl _ _).alloc _
        have zz : x2.heap.size = x1.heap.size + 1 := by rw [hx2]; simp
        have d87 : p8 ≠ p7 := by have := v8.lt; omega
        have v8 := v8.turns tt (by simp)
        have v7 : Blk x2 p7 [.string ⟨#[]⟩, .slice none 0 0, .int .i64 0, .bool false] 30 := by rw [hx2, hp7]; exact Blk.new x1 _ _
        have b7 : w2.heap.size ≤ p7 := by have := hS.size; omega
        have hS := hS.trans tt (by simp)
        rw [← hx2, ← hp7]
        have HP7 := Lib.hid hp7
        clear hx2 zz tt hp7
        refine hK _ _ (Till.mk' hS trivial) ?_
        clear hK K
        try simp only [List.setIfInBounds_toArray, List.set_cons_succ, List.set_cons_zero]
        refine reg_one 2 3 #[true, true, true, true, true, false, true, true, false, false] (by kernel_rfl) rfl (by rfl) (by kernel_rfl) (fun K hK => ?_)
        go_simp
        refine (GD x2 (by exact hS.slice SL hz2 (by simp)) (Nat.le_trans hz2 hS.size)).mono ?_
        rintro e x3 ⟨g7, c7, rfl, own, tt⟩
        have zz := hS.size
        have a7 := (own.lt g7 rfl).1
        have e78 : g7 ≠ p8 := by have := v8.lt; omega
        have e77 : g7 ≠ p7 := by have := v7.lt; omega
        have v8 := v8.turns tt (by simp)
        have v7 := v7.turns tt (by simp)
        have o7 := own_more (base := w2.heap.size) own zz
        have hS := hS.trans tt (by simp)
        clear own tt zz a7
        refine hK _ _ (Till.mk' hS trivial) ?_
        clear hK K
        try simp only [List.setIfInBounds_toArray, List.set_cons_succ, List.set_cons_zero]
        refine reg_one 5 2 #[true, true, true, true, true, true, true, true, false, false] (by kernel_rfl) rfl (by rfl) (by kernel_rfl) (fun K hK => ?_)
        go_simp
        refine (GD x3 (by exact hS.slice SL hz2 (by simp)) (Nat.le_trans hz2 hS.size)).mono ?_
        rintro e x4 ⟨g8, c8, rfl, own, tt⟩
        have zz := hS.size
        have a8 := (own.lt g8 rfl).1
        have e88 : g8 ≠ p8 := by have := v8.lt; omega
        have e87 : g8 ≠ p7 := by have := v7.lt; omega
        have f78 : g7 ≠ g8 := by have := (o7.lt g7 rfl).2; omega
        have v8 := v8.turns tt (by simp)
        have v7 := v7.turns tt (by simp)
        have o7 := own_t0 o7 tt
        have o8 := own_more (base := w2.heap.size) own zz
        have hS := hS.trans tt (by simp)
        clear own tt zz a8
        refine hK _ _ (Till.mk' hS trivial) ?_
        clear hK K
        try simp only [List.setIfInBounds_toArray, List.set_cons_succ, List.set_cons_zero]
        refine reg_one 8 1 #[true, true, true, true, true, true, true, true, true, false] (by kernel_rfl) rfl (by rfl) (by kernel_rfl) (fun K hK => ?_)
        have h87 : p8 ≠ p7 := by first | exact d87 | exact Ne.symm d78
        have h78 := Ne.symm h87
        have q70 := v7.cell 0
        have r70 := v7.free 0
        have q71 := v7.cell 1
        have r71 := v7.free 1
        have q72 := v7.cell 2
        have r72 := v7.free 2
        have q73 := v7.cell 3
        have r73 := v7.free 3
        have q80 := v8.cell 0
        have r80 := v8.free 0
        have q81 := v8.cell 1
        have r81 := v8.free 1
        have q82 := v8.cell 2
        have r82 := v8.free 2
        have q83 := v8.cell 3
        have r83 := v8.free 3
        simp only [List.getElem?_cons_zero, List.getElem?_cons_succ] at q70 q71 q72 q73 q80 q81 q82 q83
        go_simp
        have tt : Turns [p7] x4 (x4.setCells p7 0 [.string G.name, .slice (some ⟨g7, 0, none⟩) (goodL s) c7, .int .i64 (goodKey s : Nat), .bool s.only]) := Turns.setCells (L := [p7]) (a := x4) (b := p7) (.inl (by simp)) [.string G.name, .slice (some ⟨g7, 0, none⟩) (goodL s) c7, .int .i64 (goodKey s : Nat), .bool s.only] 0 (Turns.refl [p7] x4)
        have w7 := v7.setCells [.string G.name, .slice (some ⟨g7, 0, none⟩) (goodL s) c7, .int .i64 (goodKey s : Nat), .bool s.only] 0
        rw [spl_whole _ _ (by rfl)] at w7
        have v8 := v8.turns tt (by simpa using h87)
        have o7 := own_tL o7 tt (by intro x hx; simp at hx; subst hx; intro e; simp only [Value.ownBlock] at e; injection e with e; exact absurd e e77)
        have o8 := own_tL o8 tt (by intro x hx; simp at hx; subst hx; intro e; simp only [Value.ownBlock] at e; injection e with e; exact absurd e e87)
        have hS := hS.trans tt (by intro x hx; simp at hx; exact .inr (by omega))
        clear tt
        refine hK _ _ (Till.mk' hS trivial) ?_
        clear hK K
        try simp only [List.setIfInBounds_toArray, List.set_cons_succ, List.set_cons_zero]
        refine reg_one 9 0 #[true, true, true, true, true, true, true, true, true, true] (by kernel_rfl) rfl (by rfl) (by kernel_rfl) (fun K hK => ?_)
        go_simp
        have tt : Turns [p8] (x4.setCells p7 0 [.string G.name, .slice (some ⟨g7, 0, none⟩) (goodL s) c7, .int .i64 (goodKey s : Nat), .bool s.only]) ((x4.setCells p7 0 [.string G.name, .slice (some ⟨g7, 0, none⟩) (goodL s) c7, .int .i64 (goodKey s : Nat), .bool s.only]).setCells p8 0 [.string G.name, .slice (some ⟨g8, 0, none⟩) (goodL s) c8, .int .i64 (goodKey s : Nat), .bool s.only]) := Turns.setCells (L := [p8]) (a := (x4.setCells p7 0 [.string G.name, .slice (some ⟨g7, 0, none⟩) (goodL s) c7, .int .i64 (goodKey s : Nat), .bool s.only])) (b := p8) (.inl (by simp)) [.string G.name, .slice (some ⟨g8, 0, none⟩) (goodL s) c8, .int .i64 (goodKey s : Nat), .bool s.only] 0 (Turns.refl [p8] (x4.setCells p7 0 [.string G.name, .slice (some ⟨g7, 0, none⟩) (goodL s) c7, .int .i64 (goodKey s : Nat), .bool s.only]))
        have w8 := v8.setCells [.string G.name, .slice (some ⟨g8, 0, none⟩) (goodL s) c8, .int .i64 (goodKey s : Nat), .bool s.only] 0
        rw [spl_whole _ _ (by rfl)] at w8
        have w7 := w7.turns tt (by simpa using h78)
        have o7 := own_tL o7 tt (by intro x hx; simp at hx; subst hx; intro e; simp only [Value.ownBlock] at e; injection e with e; exact absurd e e78)
        have o8 := own_tL o8 tt (by intro x hx; simp at hx; subst hx; intro e; simp only [Value.ownBlock] at e; injection e with e; exact absurd e e88)
        have hS := hS.trans tt (by intro x hx; simp at hx; exact .inr (by omega))
        clear tt
        refine hK _ _ (Till.mk' hS trivial) ?_
        clear hK K
        try simp only [List.setIfInBounds_toArray, List.set_cons_succ, List.set_cons_zero]
        refine reg_done (by kernel_rfl) ?_ _
        go_wp2_with fail
        go_meet
        exact ⟨p7, p8, g7, c7, g8, c8, rfl, rfl, w7, w8, o7, o8, ⟨b7, b8, Ne.symm h87, e77, e78, e87, e88, by first | exact f78 | exact Ne.symm f87⟩, hS⟩
  case rest =>
    obtain ⟨p7, p8, g7, c7, g8, c8, rfl, rfl, v7, v8, o7, o8, hne, hS⟩ := hcut
    obtain ⟨hgn, hgo, hcols, hnm, hns⟩ := HG.out
    obtain ⟨hb7, hb8, d78, d1, d2, d3, d4, d5⟩ := hne
    have hw2 := T02.out.size
    have t0 := T02.out.trans hS (by simp)
    obtain ⟨k, hk⟩ : ∃ k : Nat, z % (goodL s : Int) = k := ⟨(z % (goodL s : Int)).toNat, by have := Int.emod_nonneg z (show (goodL s : Int) ≠ 0 by omega); omega⟩
    have hkG : k < G.cols.length := by have := Int.emod_lt_of_pos z (show (0 : Int) < (goodL s : Int) by omega); omega
    have WI := fun W => within_any z (goodL s) W hz.1 hz.2 (by omega) (by omega)
    rw [hk] at WI
    replace WI := Lib.hid WI
    have hki : (k : Int) < (goodL s : Int) := by omega
    have hkl : k < goodL s := by omega
    have WQ := fun W => within_any q 6 W hq.1 hq.2 (by omega) (by omega)
    have s7 := Sl.of_own o7
    have s8 := Sl.of_own o8
    have SM := Same_any G G (some ⟨g7, 0, none⟩) (some ⟨g8, 0, none⟩) (goodL s) c7 (goodL s) c8 wc.heap.size wc s7 s8 (Nat.le_refl _)
    rw [(sameS_iff G G).2 rfl] at SM
    simp only [hgo.1, hgo.2] at SM
    replace SM := Lib.hid SM
    have r7 := v7.range 0 4
    rw [List.drop_zero, List.take_of_length_le (by simp)] at r7
    have r8 := v8.range 0 4
    rw [List.drop_zero, List.take_of_length_le (by simp)] at r8
    have hsz7 : (Try.prog.info? 30).map (·.size) = some ([.string G.name, .slice (some ⟨g7, 0, none⟩) (goodL s) c7, .int .i64 (goodKey s : Nat), .bool s.only] : List Value).length := by kernel_rfl
    have hsz8 : (Try.prog.info? 30).map (·.size) = some ([.string G.name, .slice (some ⟨g8, 0, none⟩) (goodL s) c8, .int .i64 (goodKey s : Nat), .bool s.only] : List Value).length := by kernel_rfl
    have hkd := (hcols k hkG).2
    have hnk := hnm k hkG
    have H0 := Lib.hid (And.intro v7 (And.intro v8 (And.intro o7 (And.intro o8 (And.intro t0 (And.intro hkd (And.intro hnk (And.intro hgo (And.intro hns hgn)))))))))
    clear v7 v8 o7 o8 t0 s7 s8 hk hgn hgo hcols hnm hns hS HG GD SL r2 hsz hkd hnk
    have h6 : q % 6 = 0 ∨ q % 6 = 1 ∨ q % 6 = 2 ∨ q % 6 = 3 ∨ q % 6 = 4 ∨ q % 6 = 5 := by omega
    rcases h6 with h6 | h6 | h6 | h6 | h6 | h6
    all_goals
      rw [h6] at WQ
      replace WQ := Lib.hid WQ
      clear h6
      go_wp2_with (first
        | (refine wpList_load_mid rfl 30 (.tmp 7) rfl p7 0 rfl _ _ r7 Try.underlying30 rfl hsz7 ?_)
        | (refine wpList_load_mid rfl 30 (.tmp 8) rfl p8 0 rfl _ _ r8 Try.underlying30 rfl hsz8 ?_)
        | fail)
      refine SM.out.mono ?_
      rintro e w5 ⟨rfl, t5⟩
      have v7 := H0.out.1.turns t5 (by simp)
      have v8 := H0.out.2.1.turns t5 (by simp)
      have o7 := own_t0 H0.out.2.2.1 t5
      have o8 := own_t0 H0.out.2.2.2.1 t5
      have t0 := H0.out.2.2.2.2.1.trans t5 (by simp)
      have k8 := v8.cell 1
      simp only [List.getElem?_cons_zero, List.getElem?_cons_succ] at k8
      clear t5 SM r7 r8 hsz7 hsz8
      have HV := Lib.hid (And.intro v7 (And.intro v8 (And.intro o7 (And.intro o8 t0))))
      clear v7 v8 o7 o8 t0
      go_wp2_with fail
      refine (WI.out _).mono ?_
      rintro e ww ⟨rfl, rfl⟩
      go_wp2_with fail
      refine (WQ.out _).mono ?_
      rintro e ww ⟨rfl, rfl⟩
      clear WI WQ
    ·
      obtain ⟨v7, v8, o7, o8, t0⟩ := HV.out
      obtain ⟨-, -, -, -, -, hkd, hnk, hgo, hns, hgn⟩ := H0.out
      have h7l := (o7.lt g7 rfl).2
      have h8l := (o8.lt g8 rfl).2

      have q8 := v8.cell 0
      have f8 := v8.free 0
      simp only [List.getElem?_cons_zero, List.getElem?_cons_succ] at q8
      have v7x := v7.other (p := ⟨p8, 0, none⟩) (Ne.symm d78) (.string (G.name ++ ⟨#[120]⟩))
      have v8x := v8.set 0 (.string (G.name ++ ⟨#[120]⟩))
      simp only [List.set_cons_succ, List.set_cons_zero] at v8x
      have o7x := ownsRow_setCell_other o7 (a := ⟨p8, 0, none⟩) (by simpa [Value.ownBlock] using d2) (.string (G.name ++ ⟨#[120]⟩))
      have o8x := ownsRow_setCell_other o8 (a := ⟨p8, 0, none⟩) (by simpa [Value.ownBlock] using d4) (.string (G.name ++ ⟨#[120]⟩))
      have s7x := Sl.of_own o7x
      have tx := t0.setCell (p := ⟨p8, 0, none⟩) (.inr (by simp; omega)) (.string (G.name ++ ⟨#[120]⟩))
      have s8x := Sl.of_own o8x
      have hne : other G ⟨G.name ++ ⟨#[120]⟩, G.cols, G.key, G.only⟩ := other_of (fun e => by
        have h1 : G.name = G.name ++ ⟨#[120]⟩ := congrArg Sch.name e
        have h2 := congrArg ByteArray.size h1
        rw [ByteArray.size_append] at h2
        have h3 : (⟨#[120]⟩ : ByteArray).size = 1 := rfl
        omega)
      have hn2 : G.name.size = 2 := hns
      obtain ⟨x, hx⟩ : ∃ x, x = w5.setCell ⟨p8, 0, none⟩ (.string (G.name ++ ⟨#[120]⟩)) := ⟨_, rfl⟩
      rw [← hx] at v7x v8x s7x s8x tx
      have HX := Lib.hid hx
      clear hx
      have ra := v7x.range 0 4
      rw [List.drop_zero, List.take_of_length_le (by simp)] at ra
      have rb := v8x.range 0 4
      rw [List.drop_zero, List.take_of_length_le (by simp)] at rb
      have hsa : (Try.prog.info? 30).map (·.size) = some ([.string G.name, .slice (some ⟨g7, 0, none⟩) (goodL s) c7, .int .i64 (goodKey s : Nat), .bool s.only] : List Value).length := by kernel_rfl
      have hsb : (Try.prog.info? 30).map (·.size) = some ([.string (G.name ++ ⟨#[120]⟩), .slice (some ⟨g8, 0, none⟩) (goodL s) c8, .int .i64 (goodKey s : Nat), .bool (s.only)] : List Value).length := by kernel_rfl
      have S1 := Same_any G ⟨G.name ++ ⟨#[120]⟩, G.cols, G.key, G.only⟩ (some ⟨g7, 0, none⟩) (some ⟨g8, 0, none⟩) (goodL s) c7 (goodL s) c8 x.heap.size x s7x s8x (Nat.le_refl _)
      have S2 := fun (X : World) (tt : Turns [] x X) => Same_any ⟨G.name ++ ⟨#[120]⟩, G.cols, G.key, G.only⟩ G (some ⟨g8, 0, none⟩) (some ⟨g7, 0, none⟩) (goodL s) c8 (goodL s) c7 x.heap.size X (by exact tt.slice s8x (Nat.le_refl _) (by simp)) (by exact tt.slice s7x (Nat.le_refl _) (by simp)) tt.size
      rw [hne.1] at S1
      rw [hne.2] at S2
      simp only [hgo.1, hgo.2] at S1 S2
      replace S1 := Lib.hid S1
      replace S2 := Lib.hid S2
      have TX := Lib.hid tx
      clear v7 v8 o7 o8 t0 v7x v8x s7x s8x tx hne hgo hns hgn

      go_upto_region 22 with fail
      rw [← HX.out]
      go_wp2_with (first
        | (refine wpList_load_mid rfl 30 (.tmp 7) rfl p7 0 rfl _ _ ra Try.underlying30 rfl hsa ?_)
        | (refine wpList_load_mid rfl 30 (.tmp 8) rfl p8 0 rfl _ _ rb Try.underlying30 rfl hsb ?_)
        | fail)
      refine S1.out.mono ?_
      rintro e x2 ⟨rfl, tt⟩
      have ra := rangeT tt ra
      have rb := rangeT tt rb
      have S2 := Lib.hid (S2.out x2 tt)
      have tx2 := TX.out.trans tt (by simp)
      clear tt
      go_wp2_with (first
        | (refine wpList_load_g (by rfl) 30 (.tmp 7) rfl p7 0 rfl _ _ ra Try.underlying30 rfl hsa ?_)
        | (refine wpList_load_g (by rfl) 30 (.tmp 8) rfl p8 0 rfl _ _ rb Try.underlying30 rfl hsb ?_)
        | fail)
      refine S2.out.mono ?_
      rintro e x3 ⟨rfl, tt⟩
      have bel := (tx2.trans tt (by simp)).below (Nat.le_refl _) (by simp)
      clear tt tx2
      go_wp2_with fail
      go_ret
      exact ⟨rfl, bel⟩
    ·
      obtain ⟨v7, v8, o7, o8, t0⟩ := HV.out
      obtain ⟨-, -, -, -, -, hkd, hnk, hgo, hns, hgn⟩ := H0.out
      have h7l := (o7.lt g7 rfl).2
      have h8l := (o8.lt g8 rfl).2

      obtain ⟨q8, f8⟩ := own_col o8 k 0 hkG (by omega)
      have v7x := v7.other (p := ⟨g8, k * 3 + 0, none⟩) d3 (.string ⟨#[111, 116, 104, 101, 114]⟩)
      have v8x := v8.other (p := ⟨g8, k * 3 + 0, none⟩) d4 (.string ⟨#[111, 116, 104, 101, 114]⟩)
      have o7x := ownsRow_setCell_other o7 (a := ⟨g8, k * 3 + 0, none⟩) (by simpa [Value.ownBlock] using d5) (.string ⟨#[111, 116, 104, 101, 114]⟩)
      have o8x := (o8.stored (k * 3 + 0) (.string ⟨#[111, 116, 104, 101, 114]⟩)).1
      rw [Nat.add_zero, colCells_ren _ _ hkG] at o8x
      have s7x := Sl.of_own o7x
      have s8x := Sl.of_own o8x
      have tx := t0.setCell (p := ⟨g8, k * 3 + 0, none⟩) (.inr (by have := (o8.lt g8 rfl).1; simp; omega)) (.string ⟨#[111, 116, 104, 101, 114]⟩)
      try simp only [Nat.add_zero] at q8 f8 v7x v8x s7x s8x tx
      simp only [Col.cells, List.getElem?_cons_zero] at q8
      have hne : other G ⟨G.name, G.cols.set k (ren G.cols[k] ⟨#[111, 116, 104, 101, 114]⟩), G.key, G.only⟩ := other_of (fun e => by
        refine set_ne hkG (fun e2 => ?_) (congrArg Sch.cols e)
        have h1 : G.cols[k].name = ⟨#[111, 116, 104, 101, 114]⟩ := congrArg Col.name e2
        rw [hnk] at h1
        have := congrArg ByteArray.size h1
        rw [strOf_size] at this
        exact absurd this (by show ¬ (1 = 5); omega))
      obtain ⟨x, hx⟩ : ∃ x, x = w5.setCell ⟨g8, k * 3, none⟩ (.string ⟨#[111, 116, 104, 101, 114]⟩) := ⟨_, rfl⟩
      rw [← hx] at v7x v8x s7x s8x tx
      have HX := Lib.hid hx
      clear hx
      have ra := v7x.range 0 4
      rw [List.drop_zero, List.take_of_length_le (by simp)] at ra
      have rb := v8x.range 0 4
      rw [List.drop_zero, List.take_of_length_le (by simp)] at rb
      have hsa : (Try.prog.info? 30).map (·.size) = some ([.string G.name, .slice (some ⟨g7, 0, none⟩) (goodL s) c7, .int .i64 (goodKey s : Nat), .bool s.only] : List Value).length := by kernel_rfl
      have hsb : (Try.prog.info? 30).map (·.size) = some ([.string (G.name), .slice (some ⟨g8, 0, none⟩) (goodL s) c8, .int .i64 (goodKey s : Nat), .bool (s.only)] : List Value).length := by kernel_rfl
      have S1 := Same_any G ⟨G.name, G.cols.set k (ren G.cols[k] ⟨#[111, 116, 104, 101, 114]⟩), G.key, G.only⟩ (some ⟨g7, 0, none⟩) (some ⟨g8, 0, none⟩) (goodL s) c7 (goodL s) c8 x.heap.size x s7x s8x (Nat.le_refl _)
      have S2 := fun (X : World) (tt : Turns [] x X) => Same_any ⟨G.name, G.cols.set k (ren G.cols[k] ⟨#[111, 116, 104, 101, 114]⟩), G.key, G.only⟩ G (some ⟨g8, 0, none⟩) (some ⟨g7, 0, none⟩) (goodL s) c8 (goodL s) c7 x.heap.size X (by exact tt.slice s8x (Nat.le_refl _) (by simp)) (by exact tt.slice s7x (Nat.le_refl _) (by simp)) tt.size
      rw [hne.1] at S1
      rw [hne.2] at S2
      simp only [hgo.1, hgo.2] at S1 S2
      replace S1 := Lib.hid S1
      replace S2 := Lib.hid S2
      have TX := Lib.hid tx
      clear v7 v8 o7 o8 t0 v7x v8x s7x s8x tx hne hgo hns hgn

      go_upto_region 22 with fail
      rw [← HX.out]
      go_wp2_with (first
        | (refine wpList_load_mid rfl 30 (.tmp 7) rfl p7 0 rfl _ _ ra Try.underlying30 rfl hsa ?_)
        | (refine wpList_load_mid rfl 30 (.tmp 8) rfl p8 0 rfl _ _ rb Try.underlying30 rfl hsb ?_)
        | fail)
      refine S1.out.mono ?_
      rintro e x2 ⟨rfl, tt⟩
      have ra := rangeT tt ra
      have rb := rangeT tt rb
      have S2 := Lib.hid (S2.out x2 tt)
      have tx2 := TX.out.trans tt (by simp)
      clear tt
      go_wp2_with (first
        | (refine wpList_load_g (by rfl) 30 (.tmp 7) rfl p7 0 rfl _ _ ra Try.underlying30 rfl hsa ?_)
        | (refine wpList_load_g (by rfl) 30 (.tmp 8) rfl p8 0 rfl _ _ rb Try.underlying30 rfl hsb ?_)
        | fail)
      refine S2.out.mono ?_
      rintro e x3 ⟨rfl, tt⟩
      have bel := (tx2.trans tt (by simp)).below (Nat.le_refl _) (by simp)
      clear tt tx2
      go_wp2_with fail
      go_ret
      exact ⟨rfl, bel⟩
    ·
      obtain ⟨v7, v8, o7, o8, t0⟩ := HV.out
      obtain ⟨-, -, -, -, -, hkd, hnk, hgo, hns, hgn⟩ := H0.out
      have h7l := (o7.lt g7 rfl).2
      have h8l := (o8.lt g8 rfl).2

      obtain ⟨q8, f8⟩ := own_col o8 k 1 hkG (by omega)
      have v7x := v7.other (p := ⟨g8, k * 3 + 1, none⟩) d3 (.int .i64 (G.cols[k].kind + 1))
      have v8x := v8.other (p := ⟨g8, k * 3 + 1, none⟩) d4 (.int .i64 (G.cols[k].kind + 1))
      have o7x := ownsRow_setCell_other o7 (a := ⟨g8, k * 3 + 1, none⟩) (by simpa [Value.ownBlock] using d5) (.int .i64 (G.cols[k].kind + 1))
      have o8x := (o8.stored (k * 3 + 1) (.int .i64 (G.cols[k].kind + 1))).1
      rw [colCells_rekind _ _ hkG] at o8x
      have s7x := Sl.of_own o7x
      have s8x := Sl.of_own o8x
      have tx := t0.setCell (p := ⟨g8, k * 3 + 1, none⟩) (.inr (by have := (o8.lt g8 rfl).1; simp; omega)) (.int .i64 (G.cols[k].kind + 1))
      simp only [Col.cells, List.getElem?_cons_zero, List.getElem?_cons_succ] at q8
      have hne : other G ⟨G.name, G.cols.set k (rekind G.cols[k] (G.cols[k].kind + 1)), G.key, G.only⟩ := other_of (fun e => by
        refine set_ne hkG (fun e2 => ?_) (congrArg Sch.cols e)
        have h1 : G.cols[k].kind = G.cols[k].kind + 1 := congrArg Col.kind e2
        omega)
      have kd1 := hkd.1
      have kd2 := hkd.2
      obtain ⟨x, hx⟩ : ∃ x, x = w5.setCell ⟨g8, k * 3 + 1, none⟩ (.int .i64 (G.cols[k].kind + 1)) := ⟨_, rfl⟩
      rw [← hx] at v7x v8x s7x s8x tx
      have HX := Lib.hid hx
      clear hx
      have ra := v7x.range 0 4
      rw [List.drop_zero, List.take_of_length_le (by simp)] at ra
      have rb := v8x.range 0 4
      rw [List.drop_zero, List.take_of_length_le (by simp)] at rb
      have hsa : (Try.prog.info? 30).map (·.size) = some ([.string G.name, .slice (some ⟨g7, 0, none⟩) (goodL s) c7, .int .i64 (goodKey s : Nat), .bool s.only] : List Value).length := by kernel_rfl
      have hsb : (Try.prog.info? 30).map (·.size) = some ([.string (G.name), .slice (some ⟨g8, 0, none⟩) (goodL s) c8, .int .i64 (goodKey s : Nat), .bool (s.only)] : List Value).length := by kernel_rfl
      have S1 := Same_any G ⟨G.name, G.cols.set k (rekind G.cols[k] (G.cols[k].kind + 1)), G.key, G.only⟩ (some ⟨g7, 0, none⟩) (some ⟨g8, 0, none⟩) (goodL s) c7 (goodL s) c8 x.heap.size x s7x s8x (Nat.le_refl _)
      have S2 := fun (X : World) (tt : Turns [] x X) => Same_any ⟨G.name, G.cols.set k (rekind G.cols[k] (G.cols[k].kind + 1)), G.key, G.only⟩ G (some ⟨g8, 0, none⟩) (some ⟨g7, 0, none⟩) (goodL s) c8 (goodL s) c7 x.heap.size X (by exact tt.slice s8x (Nat.le_refl _) (by simp)) (by exact tt.slice s7x (Nat.le_refl _) (by simp)) tt.size
      rw [hne.1] at S1
      rw [hne.2] at S2
      simp only [hgo.1, hgo.2] at S1 S2
      replace S1 := Lib.hid S1
      replace S2 := Lib.hid S2
      have TX := Lib.hid tx
      clear v7 v8 o7 o8 t0 v7x v8x s7x s8x tx hne hgo hns hgn

      go_upto_region 22 with fail
      rw [← HX.out]
      go_wp2_with (first
        | (refine wpList_load_mid rfl 30 (.tmp 7) rfl p7 0 rfl _ _ ra Try.underlying30 rfl hsa ?_)
        | (refine wpList_load_mid rfl 30 (.tmp 8) rfl p8 0 rfl _ _ rb Try.underlying30 rfl hsb ?_)
        | fail)
      refine S1.out.mono ?_
      rintro e x2 ⟨rfl, tt⟩
      have ra := rangeT tt ra
      have rb := rangeT tt rb
      have S2 := Lib.hid (S2.out x2 tt)
      have tx2 := TX.out.trans tt (by simp)
      clear tt
      go_wp2_with (first
        | (refine wpList_load_g (by rfl) 30 (.tmp 7) rfl p7 0 rfl _ _ ra Try.underlying30 rfl hsa ?_)
        | (refine wpList_load_g (by rfl) 30 (.tmp 8) rfl p8 0 rfl _ _ rb Try.underlying30 rfl hsb ?_)
        | fail)
      refine S2.out.mono ?_
      rintro e x3 ⟨rfl, tt⟩
      have bel := (tx2.trans tt (by simp)).below (Nat.le_refl _) (by simp)
      clear tt tx2
      go_wp2_with fail
      go_ret
      exact ⟨rfl, bel⟩
    ·
      obtain ⟨v7, v8, o7, o8, t0⟩ := HV.out
      obtain ⟨-, -, -, -, -, hkd, hnk, hgo, hns, hgn⟩ := H0.out
      have h7l := (o7.lt g7 rfl).2
      have h8l := (o8.lt g8 rfl).2

      obtain ⟨q8, f8⟩ := own_col o8 k 2 hkG (by omega)
      have v7x := v7.other (p := ⟨g8, k * 3 + 2, none⟩) d3 (.bool (!G.cols[k].null))
      have v8x := v8.other (p := ⟨g8, k * 3 + 2, none⟩) d4 (.bool (!G.cols[k].null))
      have o7x := ownsRow_setCell_other o7 (a := ⟨g8, k * 3 + 2, none⟩) (by simpa [Value.ownBlock] using d5) (.bool (!G.cols[k].null))
      have o8x := (o8.stored (k * 3 + 2) (.bool (!G.cols[k].null))).1
      rw [colCells_renull _ _ hkG] at o8x
      have s7x := Sl.of_own o7x
      have s8x := Sl.of_own o8x
      have tx := t0.setCell (p := ⟨g8, k * 3 + 2, none⟩) (.inr (by have := (o8.lt g8 rfl).1; simp; omega)) (.bool (!G.cols[k].null))
      simp only [Col.cells, List.getElem?_cons_zero, List.getElem?_cons_succ] at q8
      replace v7x := v7x.drew
      replace v8x := v8x.drew
      have s7x := Sl.of_own o7x.drew
      have s8x := Sl.of_own o8x.drew
      replace tx := tx.drew
      have hne : other G ⟨G.name, G.cols.set k (renull G.cols[k] (!G.cols[k].null)), G.key, G.only⟩ := other_of (fun e => by
        refine set_ne hkG (fun e2 => ?_) (congrArg Sch.cols e)
        have h1 : G.cols[k].null = !G.cols[k].null := congrArg Col.null e2
        cases h : G.cols[k].null <;> rw [h] at h1 <;> cases h1)
      have hS5 : Turns [] w5 w5.drew := (Turns.refl _ _).drew
      obtain ⟨x, hx⟩ : ∃ x, x = (w5.setCell ⟨g8, k * 3 + 2, none⟩ (.bool (!G.cols[k].null))).drew := ⟨_, rfl⟩
      rw [← hx] at v7x v8x s7x s8x tx
      have HX := Lib.hid hx
      clear hx
      have ra := v7x.range 0 4
      rw [List.drop_zero, List.take_of_length_le (by simp)] at ra
      have rb := v8x.range 0 4
      rw [List.drop_zero, List.take_of_length_le (by simp)] at rb
      have hsa : (Try.prog.info? 30).map (·.size) = some ([.string G.name, .slice (some ⟨g7, 0, none⟩) (goodL s) c7, .int .i64 (goodKey s : Nat), .bool s.only] : List Value).length := by kernel_rfl
      have hsb : (Try.prog.info? 30).map (·.size) = some ([.string (G.name), .slice (some ⟨g8, 0, none⟩) (goodL s) c8, .int .i64 (goodKey s : Nat), .bool (s.only)] : List Value).length := by kernel_rfl
      have S1 := Same_any G ⟨G.name, G.cols.set k (renull G.cols[k] (!G.cols[k].null)), G.key, G.only⟩ (some ⟨g7, 0, none⟩) (some ⟨g8, 0, none⟩) (goodL s) c7 (goodL s) c8 x.heap.size x s7x s8x (Nat.le_refl _)
      have S2 := fun (X : World) (tt : Turns [] x X) => Same_any ⟨G.name, G.cols.set k (renull G.cols[k] (!G.cols[k].null)), G.key, G.only⟩ G (some ⟨g8, 0, none⟩) (some ⟨g7, 0, none⟩) (goodL s) c8 (goodL s) c7 x.heap.size X (by exact tt.slice s8x (Nat.le_refl _) (by simp)) (by exact tt.slice s7x (Nat.le_refl _) (by simp)) tt.size
      rw [hne.1] at S1
      rw [hne.2] at S2
      simp only [hgo.1, hgo.2] at S1 S2
      replace S1 := Lib.hid S1
      replace S2 := Lib.hid S2
      have TX := Lib.hid tx
      clear v7 v8 o7 o8 t0 v7x v8x s7x s8x tx hne hgo hns hgn

      go_upto_region 17 with fail
      refine reg_begin (fun _ => True) (fun W => Turns [] w5 W) 12 13 #[false, false, false, false, false, false, false, false, false, false, false, false, false] (by kernel_rfl) (by kernel_rfl) (by kernel_rfl) ?_
      refine reg_take 0 58 12 #[true, false, false, false, false, false, false, false, false, false, false, false, false] (by rfl) (v := ?_) rfl rfl (by kernel_rfl) (by kernel_rfl) (by kernel_rfl) (by kernel_rfl) (fun _ _ _ h => h) (by rfl) ?_ (Till.mk' trivial hS5) ?_
      rotate_left
      · intro W hS; go_simp; all_goals with_reducible rfl
      try simp only [List.setIfInBounds_toArray, List.set_cons_succ, List.set_cons_zero]
      refine reg_take_t 1 59 11 #[true, true, false, false, false, false, false, false, false, false, false, false, false] (by rfl) (v := ?_) rfl rfl (by kernel_rfl) (by kernel_rfl) (by kernel_rfl) (by kernel_rfl) (fun _ _ _ h => h) (by rfl) (by kernel_rfl) (by kernel_rfl) ?_ (Till.mk' trivial hS5) ?_
      rotate_left
      · rintro W ⟨-, hS⟩; have c2 := cellT hS k8; go_simp; all_goals with_reducible rfl
      try simp only [List.setIfInBounds_toArray, List.set_cons_succ, List.set_cons_zero]
      refine reg_take 2 60 10 #[true, true, true, false, false, false, false, false, false, false, false, false, false] (by rfl) (v := ?_) rfl rfl (by kernel_rfl) (by kernel_rfl) (by kernel_rfl) (by kernel_rfl) (fun _ _ _ h => h) (by rfl) ?_ (Till.mk' trivial hS5) ?_
      rotate_left
      · intro W hS; go_simp; all_goals with_reducible rfl
      try simp only [List.setIfInBounds_toArray, List.set_cons_succ, List.set_cons_zero]
      refine reg_take 3 61 9 #[true, true, true, true, false, false, false, false, false, false, false, false, false] (by rfl) (v := ?_) rfl rfl (by kernel_rfl) (by kernel_rfl) (by kernel_rfl) (by kernel_rfl) (fun _ _ _ h => h) (by rfl) ?_ (Till.mk' trivial hS5) ?_
      rotate_left
      · intro W hS; go_simp; all_goals with_reducible rfl
      try simp only [List.setIfInBounds_toArray, List.set_cons_succ, List.set_cons_zero]
      refine reg_take_t 4 62 8 #[true, true, true, true, true, false, false, false, false, false, false, false, false] (by rfl) (v := ?_) rfl rfl (by kernel_rfl) (by kernel_rfl) (by kernel_rfl) (by kernel_rfl) (fun _ _ _ h => h) (by rfl) (by kernel_rfl) (by kernel_rfl) ?_ (Till.mk' trivial hS5) ?_
      rotate_left
      · rintro W ⟨-, hS⟩; have c2 := cellT hS k8; go_simp; all_goals with_reducible rfl
      try simp only [List.setIfInBounds_toArray, List.set_cons_succ, List.set_cons_zero]
      refine reg_take 5 63 7 #[true, true, true, true, true, true, false, false, false, false, false, false, false] (by rfl) (v := ?_) rfl rfl (by kernel_rfl) (by kernel_rfl) (by kernel_rfl) (by kernel_rfl) (fun _ _ _ h => h) (by rfl) ?_ (Till.mk' trivial hS5) ?_
      rotate_left
      · intro W hS; go_simp; all_goals with_reducible rfl
      try simp only [List.setIfInBounds_toArray, List.set_cons_succ, List.set_cons_zero]
      refine reg_take 6 64 6 #[true, true, true, true, true, true, true, false, false, false, false, false, false] (by rfl) (v := ?_) rfl rfl (by kernel_rfl) (by kernel_rfl) (by kernel_rfl) (by kernel_rfl) (fun _ _ _ h => h) (by rfl) ?_ (Till.mk' trivial hS5) ?_
      rotate_left
      · intro W hS; go_simp; all_goals with_reducible rfl
      try simp only [List.setIfInBounds_toArray, List.set_cons_succ, List.set_cons_zero]
      refine reg_take 7 65 5 #[true, true, true, true, true, true, true, true, false, false, false, false, false] (by rfl) (v := ?_) rfl rfl (by kernel_rfl) (by kernel_rfl) (by kernel_rfl) (by kernel_rfl) (fun _ _ _ h => h) (by rfl) ?_ (Till.mk' trivial hS5) ?_
      rotate_left
      · intro W hS; go_simp; all_goals with_reducible rfl
      try simp only [List.setIfInBounds_toArray, List.set_cons_succ, List.set_cons_zero]
      refine reg_take_t 8 66 4 #[true, true, true, true, true, true, true, true, true, false, false, false, false] (by rfl) (v := ?_) rfl rfl (by kernel_rfl) (by kernel_rfl) (by kernel_rfl) (by kernel_rfl) (fun _ _ _ h => h) (by rfl) (by kernel_rfl) (by kernel_rfl) ?_ (Till.mk' trivial hS5) ?_
      rotate_left
      · rintro W ⟨-, hS⟩; have c2 := cellT hS q8; go_simp; all_goals with_reducible rfl
      try simp only [List.setIfInBounds_toArray, List.set_cons_succ, List.set_cons_zero]
      refine reg_take 9 67 3 #[true, true, true, true, true, true, true, true, true, true, false, false, false] (by rfl) (v := ?_) rfl rfl (by kernel_rfl) (by kernel_rfl) (by kernel_rfl) (by kernel_rfl) (fun _ _ _ h => h) (by rfl) ?_ (Till.mk' trivial hS5) ?_
      rotate_left
      · intro W hS; go_simp; all_goals with_reducible rfl
      try simp only [List.setIfInBounds_toArray, List.set_cons_succ, List.set_cons_zero]
      refine reg_take 10 68 2 #[true, true, true, true, true, true, true, true, true, true, true, false, false] (by rfl) (v := ?_) rfl rfl (by kernel_rfl) (by kernel_rfl) (by kernel_rfl) (by kernel_rfl) (fun _ _ _ h => h) (by rfl) ?_ (Till.mk' trivial hS5) ?_
      rotate_left
      · intro W hS; go_simp; all_goals with_reducible rfl
      try simp only [List.setIfInBounds_toArray, List.set_cons_succ, List.set_cons_zero]
      refine reg_take 11 69 1 #[true, true, true, true, true, true, true, true, true, true, true, true, false] (by rfl) (v := ?_) rfl rfl (by kernel_rfl) (by kernel_rfl) (by kernel_rfl) (by kernel_rfl) (fun _ _ _ h => h) (by rfl) ?_ (Till.mk' trivial hS5) ?_
      rotate_left
      · intro W hS; go_simp; all_goals with_reducible rfl
      try simp only [List.setIfInBounds_toArray, List.set_cons_succ, List.set_cons_zero]
      refine reg_one 12 0 #[true, true, true, true, true, true, true, true, true, true, true, true, true] (by kernel_rfl) rfl (by rfl) (by kernel_rfl) (fun K hK => ?_)
      go_simp
      refine hK _ _ (Till.past trivial (by kernel_rfl)) ?_
      clear hK K
      try simp only [List.setIfInBounds_toArray, List.set_cons_succ, List.set_cons_zero]
      refine reg_done (by kernel_rfl) ?_ _
      go_upto_region 22 with fail
      rw [← HX.out]
      go_wp2_with (first
        | (refine wpList_load_mid rfl 30 (.tmp 7) rfl p7 0 rfl _ _ ra Try.underlying30 rfl hsa ?_)
        | (refine wpList_load_mid rfl 30 (.tmp 8) rfl p8 0 rfl _ _ rb Try.underlying30 rfl hsb ?_)
        | fail)
      refine S1.out.mono ?_
      rintro e x2 ⟨rfl, tt⟩
      have ra := rangeT tt ra
      have rb := rangeT tt rb
      have S2 := Lib.hid (S2.out x2 tt)
      have tx2 := TX.out.trans tt (by simp)
      clear tt
      go_wp2_with (first
        | (refine wpList_load_g (by rfl) 30 (.tmp 7) rfl p7 0 rfl _ _ ra Try.underlying30 rfl hsa ?_)
        | (refine wpList_load_g (by rfl) 30 (.tmp 8) rfl p8 0 rfl _ _ rb Try.underlying30 rfl hsb ?_)
        | fail)
      refine S2.out.mono ?_
      rintro e x3 ⟨rfl, tt⟩
      have bel := (tx2.trans tt (by simp)).below (Nat.le_refl _) (by simp)
      clear tt tx2
      go_wp2_with fail
      go_ret
      exact ⟨rfl, bel⟩
    ·
      obtain ⟨v7, v8, o7, o8, t0⟩ := HV.out
      obtain ⟨-, -, -, -, -, hkd, hnk, hgo, hns, hgn⟩ := H0.out
      have h7l := (o7.lt g7 rfl).2
      have h8l := (o8.lt g8 rfl).2

      have q8 := v8.cell 3
      have f8 := v8.free 3
      simp only [List.getElem?_cons_zero, List.getElem?_cons_succ] at q8
      have v7x := v7.other (p := ⟨p8, 3, none⟩) (Ne.symm d78) (.bool (!s.only))
      have v8x := v8.set 3 (.bool (!s.only))
      simp only [List.set_cons_succ, List.set_cons_zero] at v8x
      have o7x := ownsRow_setCell_other o7 (a := ⟨p8, 3, none⟩) (by simpa [Value.ownBlock] using d2) (.bool (!s.only))
      have o8x := ownsRow_setCell_other o8 (a := ⟨p8, 3, none⟩) (by simpa [Value.ownBlock] using d4) (.bool (!s.only))
      have s7x := Sl.of_own o7x
      have tx := t0.setCell (p := ⟨p8, 3, none⟩) (.inr (by simp; omega)) (.bool (!s.only))
      have s8x := Sl.of_own o8x
      have hne : other G ⟨G.name, G.cols, G.key, !G.only⟩ := other_of (fun e => by
        have h1 : G.only = !G.only := congrArg Sch.only e
        cases h : G.only <;> rw [h] at h1 <;> cases h1)
      obtain ⟨x, hx⟩ : ∃ x, x = w5.setCell ⟨p8, 3, none⟩ (.bool (!s.only)) := ⟨_, rfl⟩
      rw [← hx] at v7x v8x s7x s8x tx
      have HX := Lib.hid hx
      clear hx
      have ra := v7x.range 0 4
      rw [List.drop_zero, List.take_of_length_le (by simp)] at ra
      have rb := v8x.range 0 4
      rw [List.drop_zero, List.take_of_length_le (by simp)] at rb
      have hsa : (Try.prog.info? 30).map (·.size) = some ([.string G.name, .slice (some ⟨g7, 0, none⟩) (goodL s) c7, .int .i64 (goodKey s : Nat), .bool s.only] : List Value).length := by kernel_rfl
      have hsb : (Try.prog.info? 30).map (·.size) = some ([.string (G.name), .slice (some ⟨g8, 0, none⟩) (goodL s) c8, .int .i64 (goodKey s : Nat), .bool (!s.only)] : List Value).length := by kernel_rfl
      have S1 := Same_any G ⟨G.name, G.cols, G.key, !G.only⟩ (some ⟨g7, 0, none⟩) (some ⟨g8, 0, none⟩) (goodL s) c7 (goodL s) c8 x.heap.size x s7x s8x (Nat.le_refl _)
      have S2 := fun (X : World) (tt : Turns [] x X) => Same_any ⟨G.name, G.cols, G.key, !G.only⟩ G (some ⟨g8, 0, none⟩) (some ⟨g7, 0, none⟩) (goodL s) c8 (goodL s) c7 x.heap.size X (by exact tt.slice s8x (Nat.le_refl _) (by simp)) (by exact tt.slice s7x (Nat.le_refl _) (by simp)) tt.size
      rw [hne.1] at S1
      rw [hne.2] at S2
      simp only [hgo.1, hgo.2] at S1 S2
      replace S1 := Lib.hid S1
      replace S2 := Lib.hid S2
      have TX := Lib.hid tx
      clear v7 v8 o7 o8 t0 v7x v8x s7x s8x tx hne hgo hns hgn

      go_upto_region 22 with fail
      rw [← HX.out]
      go_wp2_with (first
        | (refine wpList_load_mid rfl 30 (.tmp 7) rfl p7 0 rfl _ _ ra Try.underlying30 rfl hsa ?_)
        | (refine wpList_load_mid rfl 30 (.tmp 8) rfl p8 0 rfl _ _ rb Try.underlying30 rfl hsb ?_)
        | fail)
      refine S1.out.mono ?_
      rintro e x2 ⟨rfl, tt⟩
      have ra := rangeT tt ra
      have rb := rangeT tt rb
      have S2 := Lib.hid (S2.out x2 tt)
      have tx2 := TX.out.trans tt (by simp)
      clear tt
      go_wp2_with (first
        | (refine wpList_load_g (by rfl) 30 (.tmp 7) rfl p7 0 rfl _ _ ra Try.underlying30 rfl hsa ?_)
        | (refine wpList_load_g (by rfl) 30 (.tmp 8) rfl p8 0 rfl _ _ rb Try.underlying30 rfl hsb ?_)
        | fail)
      refine S2.out.mono ?_
      rintro e x3 ⟨rfl, tt⟩
      have bel := (tx2.trans tt (by simp)).below (Nat.le_refl _) (by simp)
      clear tt tx2
      go_wp2_with fail
      go_ret
      exact ⟨rfl, bel⟩
    ·
      obtain ⟨v7, v8, o7, o8, t0⟩ := HV.out
      obtain ⟨-, -, -, -, -, hkd, hnk, hgo, hns, hgn⟩ := H0.out
      have h7l := (o7.lt g7 rfl).2
      have h8l := (o8.lt g8 rfl).2
      have c8l : goodL s ≤ c8 ∧ c8 ≤ 9223372036854775807 := by
        obtain ⟨_, _, _, ee, h1, h2, _⟩ := Sl.of_own o8
        injection ee with _ _ e3
        subst e3
        unfold maxLen at h2
        omega
      have c8k : (k : Int) ≤ (c8 : Int) := by omega
      have q8 := v8.cell 1
      have f8 := v8.free 1
      simp only [List.getElem?_cons_zero, List.getElem?_cons_succ] at q8
      have v7x := v7.other (p := ⟨p8, 1, none⟩) (Ne.symm d78) (.slice (some ⟨g8, 0, none⟩) k c8)
      have v8x := v8.set 1 (.slice (some ⟨g8, 0, none⟩) k c8)
      simp only [List.set_cons_succ, List.set_cons_zero] at v8x
      have o7x := ownsRow_setCell_other o7 (a := ⟨p8, 1, none⟩) (by simpa [Value.ownBlock] using d2) (.slice (some ⟨g8, 0, none⟩) k c8)
      have o8x := ownsRow_setCell_other o8 (a := ⟨p8, 1, none⟩) (by simpa [Value.ownBlock] using d4) (.slice (some ⟨g8, 0, none⟩) k c8)
      have s7x := Sl.of_own o7x
      have tx := t0.setCell (p := ⟨p8, 1, none⟩) (.inr (by simp; omega)) (.slice (some ⟨g8, 0, none⟩) k c8)
      have s8x := Sl.cols_to (Sl.of_own o8x) k (by omega)
      have hne : other G ⟨G.name, G.cols.take k, G.key, G.only⟩ := other_of (fun e => by
        have h1 : G.cols = G.cols.take k := congrArg Sch.cols e
        have h2 := congrArg List.length h1
        rw [List.length_take] at h2
        omega)
      obtain ⟨x, hx⟩ : ∃ x, x = w5.setCell ⟨p8, 1, none⟩ (.slice (some ⟨g8, 0, none⟩) k c8) := ⟨_, rfl⟩
      rw [← hx] at v7x v8x s7x s8x tx
      have HX := Lib.hid hx
      clear hx
      have ra := v7x.range 0 4
      rw [List.drop_zero, List.take_of_length_le (by simp)] at ra
      have rb := v8x.range 0 4
      rw [List.drop_zero, List.take_of_length_le (by simp)] at rb
      have hsa : (Try.prog.info? 30).map (·.size) = some ([.string G.name, .slice (some ⟨g7, 0, none⟩) (goodL s) c7, .int .i64 (goodKey s : Nat), .bool s.only] : List Value).length := by kernel_rfl
      have hsb : (Try.prog.info? 30).map (·.size) = some ([.string (G.name), .slice (some ⟨g8, 0, none⟩) k c8, .int .i64 (goodKey s : Nat), .bool (s.only)] : List Value).length := by kernel_rfl
      have S1 := Same_any G ⟨G.name, G.cols.take k, G.key, G.only⟩ (some ⟨g7, 0, none⟩) (some ⟨g8, 0, none⟩) (goodL s) c7 k c8 x.heap.size x s7x s8x (Nat.le_refl _)
      have S2 := fun (X : World) (tt : Turns [] x X) => Same_any ⟨G.name, G.cols.take k, G.key, G.only⟩ G (some ⟨g8, 0, none⟩) (some ⟨g7, 0, none⟩) k c8 (goodL s) c7 x.heap.size X (by exact tt.slice s8x (Nat.le_refl _) (by simp)) (by exact tt.slice s7x (Nat.le_refl _) (by simp)) tt.size
      rw [hne.1] at S1
      rw [hne.2] at S2
      simp only [hgo.1, hgo.2] at S1 S2
      replace S1 := Lib.hid S1
      replace S2 := Lib.hid S2
      have TX := Lib.hid tx
      clear v7 v8 o7 o8 t0 v7x v8x s7x s8x tx hne hgo hns hgn

      go_upto_region 22 with fail
      rw [← HX.out]
      go_wp2_with (first
        | (refine wpList_load_mid rfl 30 (.tmp 7) rfl p7 0 rfl _ _ ra Try.underlying30 rfl hsa ?_)
        | (refine wpList_load_mid rfl 30 (.tmp 8) rfl p8 0 rfl _ _ rb Try.underlying30 rfl hsb ?_)
        | fail)
      refine S1.out.mono ?_
      rintro e x2 ⟨rfl, tt⟩
      have ra := rangeT tt ra
      have rb := rangeT tt rb
      have S2 := Lib.hid (S2.out x2 tt)
      have tx2 := TX.out.trans tt (by simp)
      clear tt
      go_wp2_with (first
        | (refine wpList_load_g (by rfl) 30 (.tmp 7) rfl p7 0 rfl _ _ ra Try.underlying30 rfl hsa ?_)
        | (refine wpList_load_g (by rfl) 30 (.tmp 8) rfl p8 0 rfl _ _ rb Try.underlying30 rfl hsb ?_)
        | fail)
      refine S2.out.mono ?_
      rintro e x3 ⟨rfl, tt⟩
      have bel := (tx2.trans tt (by simp)).below (Nat.le_refl _) (by simp)
      clear tt tx2
      go_wp2_with fail
      go_ret
      exact ⟨rfl, bel⟩
end Go.Proofs.Ytdllgnccjejhiaa
