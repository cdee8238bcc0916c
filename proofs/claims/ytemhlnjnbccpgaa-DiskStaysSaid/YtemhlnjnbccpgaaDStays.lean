/- The law DiskStays, walked. -/
import Derived.Test.YtemhlnjnbccpgaaDLaw
import Derived.Test.YtemhlnjnbccpgaaRegl
import Derived.Test.YtemhlnjnbccpgaaSls
namespace Go.Proofs.Ytemhlnjnbccpgaa
open Go.RowKit
set_option linter.unusedVariables false
set_option linter.unusedSimpArgs false
set_option linter.unnecessarySimpa false

theorem T35 : SliceTy Try.prog 35 22 (.slice none 0 0) 1 24 := ⟨Try.underlying35, by kernel_rfl, rfl, by omega⟩

/-- The state behind the Writes on page 2. -/
def sys0 (X : List UInt8) : DS := (((fresh 4).wrote 1 X).wrote 2 X).sync
def wr2 (st : DS) : List (List UInt8) → DS
  | [] => st
  | r :: rs => wr2 (st.wrote 2 r) rs
theorem wr2_snoc (st : DS) (r : List UInt8) : ∀ rs : List (List UInt8), wr2 st (rs ++ [r]) = (wr2 st rs).wrote 2 r := by
  intro rs
  induction rs generalizing st with
  | nil => rfl
  | cons a rs ih => exact ih (st.wrote 2 a)
theorem sys0_ok (X : List UInt8) : sys0 X = ⟨0, false, spl (spl (fresh 4).now (1 * 64) X) (2 * 64) X, spl (spl (fresh 4).now (1 * 64) X) (2 * 64) X, []⟩ := by
  unfold sys0
  rw [sync_ok _ (wrote_left _ _ _ (wrote_left _ _ _ rfl rfl) (wrote_dead _ _ _ rfl rfl)) (wrote_dead _ _ _ (wrote_left _ _ _ rfl rfl) (wrote_dead _ _ _ rfl rfl)),
    wrote_now _ _ _ (wrote_left _ _ _ rfl rfl) (wrote_dead _ _ _ rfl rfl), wrote_now _ _ _ rfl rfl]
theorem wr2_ok (st : DS) (hl : st.left = 0) (hd : st.dead = false) : ∀ rs : List (List UInt8), (wr2 st rs).left = 0 ∧ (wr2 st rs).dead = false ∧ (wr2 st rs).synced = st.synced ∧ (wr2 st rs).writes = st.writes ++ rs.map fun r => (2, r) := by
  intro rs
  induction rs generalizing st with
  | nil => exact ⟨hl, hd, rfl, by simp [wr2]⟩
  | cons a rs ih =>
    obtain ⟨h1, h2, h3, h4⟩ := ih (st.wrote 2 a) (wrote_left _ _ _ hl hd) (wrote_dead _ _ _ hl hd)
    refine ⟨h1, h2, h3.trans (wrote_synced _ _ _ hl hd), ?_⟩
    rw [wr2, h4, wrote_writes _ _ _ hl hd]; simp
/-- Each half of page 2 is a row's; page 1 stays. -/
structure Halves (rows : List (List UInt8)) (X s : List UInt8) : Prop where
  len : s.length = 4 * 64
  one : pageAt s 1 = X
  first : ∃ r ∈ rows, (pageAt s 2).take 32 = r.take 32
  second : ∃ r ∈ rows, (pageAt s 2).drop 32 = r.drop 32
theorem Halves.step {rows : List (List UInt8)} {X s r : List UInt8} (h : Halves rows X s) (hr : r ∈ rows) (h64 : r.length = 64) (k : Int) : Halves rows X (crash1 k s (2, r)) := by
  have hA : Halves rows X (half1 k s (2, r)) := by
    unfold half1
    split
    · have e := page_first s 2 4 (r.take 32) h.len (by omega) (by rw [List.length_take]; omega)
      have hl : (r.take 32).length = 32 := by rw [List.length_take]; omega
      refine ⟨by rw [spl_length]; exact h.len, (pageAt_other s 2 1 0 (r.take 32) (by omega) (by rw [List.length_take]; omega)).trans h.one, ⟨r, hr, ?_⟩, ?_⟩
      · show ((pageAt (spl s (2 * 64) (r.take 32)) 2).take 32) = _
        rw [e, List.take_append_of_le_length (by omega), List.take_of_length_le (by omega)]
      · obtain ⟨r', h1, h2⟩ := h.second
        refine ⟨r', h1, ?_⟩
        show ((pageAt (spl s (2 * 64) (r.take 32)) 2).drop 32) = _
        rw [e, List.drop_append_of_le_length (by omega), List.drop_of_length_le (by omega), List.nil_append]
        exact h2
    · exact h
  unfold crash1 half2
  generalize half1 k s (2, r) = s' at hA
  split
  · have e := page_second s' 2 4 (r.drop 32) hA.len (by omega) (by rw [List.length_drop]; omega)
    have hl : ((pageAt s' 2).take 32).length = 32 := by rw [List.length_take, pageAt_length s' 2 4 hA.len (by omega)]; rfl
    refine ⟨by rw [spl_length]; exact hA.len, (pageAt_other s' 2 1 32 (r.drop 32) (by omega) (by rw [List.length_drop]; omega)).trans hA.one, ?_, ⟨r, hr, ?_⟩⟩
    · obtain ⟨r', h1, h2⟩ := hA.first
      refine ⟨r', h1, ?_⟩
      show ((pageAt (spl s' (2 * 64 + 32) (r.drop 32)) 2).take 32) = _
      rw [e, List.take_append_of_le_length (by omega), List.take_take]
      exact h2
    · show ((pageAt (spl s' (2 * 64 + 32) (r.drop 32)) 2).drop 32) = _
      rw [e, List.drop_append_of_le_length (by omega), List.drop_of_length_le (by omega), List.nil_append]
  · exact hA
theorem Halves.crash {rows : List (List UInt8)} {X : List UInt8} (l : List Int) : ∀ (rs : List (List UInt8)) (i : Nat) (s : List UInt8), Halves rows X s → (∀ r ∈ rs, r ∈ rows ∧ r.length = 64) → Halves rows X (crashS l i (rs.map fun r => (2, r)) s)
  | [], _, _, h, _ => h
  | r :: rs, i, s, h, hr => by
    rw [List.map_cons, crashS]
    exact Halves.crash l rs (i + 1) _ (h.step (hr r (by simp)).1 (hr r (by simp)).2 _) (fun y hy => hr y (by simp [hy]))
theorem halves0 (X : List UInt8) (hX : X.length = 64) (rs : List (List UInt8)) : Halves (X :: rs) X (sys0 X).synced := by
  have e : (sys0 X).synced = spl (spl (fresh 4).now (1 * 64) X) (2 * 64) X := by rw [sys0_ok]
  have l1 : (spl (fresh 4).now (1 * 64) X).length = 4 * 64 := by rw [spl_length]; exact fresh_len 4
  have p2 : pageAt (sys0 X).synced 2 = X := by rw [e]; exact pageAt_spl _ 2 4 X l1 (by omega) hX
  refine ⟨by rw [e, spl_length]; exact l1, ?_, ⟨X, by simp, by rw [p2]⟩, ⟨X, by simp, by rw [p2]⟩⟩
  rw [e, pageAt_spl_ne _ 2 1 X (by omega) hX]
  exact pageAt_spl _ 1 4 X (fresh_len 4) (by omega) hX
/-- The state behind the crash. -/
theorem stays_end (X : List UInt8) (hX : X.length = 64) (rs : List (List UInt8)) (hrs : ∀ r ∈ rs, r.length = 64) (l : List Int) : Halves (X :: rs) X ((wr2 (sys0 X) rs).crash l).now := by
  obtain ⟨_, _, h3, h4⟩ := wr2_ok (sys0 X) (by rw [sys0_ok]) (by rw [sys0_ok]) rs
  have e : (wr2 (sys0 X) rs).crash l = ⟨0, false, crashS l 0 (wr2 (sys0 X) rs).writes (wr2 (sys0 X) rs).synced, crashS l 0 (wr2 (sys0 X) rs).writes (wr2 (sys0 X) rs).synced, []⟩ := rfl
  rw [e]
  show Halves _ _ (crashS l 0 (wr2 (sys0 X) rs).writes (wr2 (sys0 X) rs).synced)
  rw [h3, h4, show (sys0 X).writes = [] by rw [sys0_ok], List.nil_append]
  exact Halves.crash l rs 0 _ (halves0 X hX rs) (fun r hr => ⟨by simp [hr], hrs r hr⟩)
/-- Has one of these rows this first half, this second one? -/
def anyF (rows : List (List UInt8)) (Q : List UInt8) : Bool := rows.any fun r => r.take 32 == Q.take 32
def anyS (rows : List (List UInt8)) (Q : List UInt8) : Bool := rows.any fun r => r.drop 32 == Q.drop 32
theorem anyF_snoc (rows : List (List UInt8)) (r Q : List UInt8) : anyF (rows ++ [r]) Q = (anyF rows Q || (r.take 32 == Q.take 32)) := by simp [anyF]
theorem anyS_snoc (rows : List (List UInt8)) (r Q : List UInt8) : anyS (rows ++ [r]) Q = (anyS rows Q || (r.drop 32 == Q.drop 32)) := by simp [anyS]
theorem anyF_true {rows : List (List UInt8)} {Q : List UInt8} (h : ∃ r ∈ rows, Q.take 32 = r.take 32) : anyF rows Q = true := by
  obtain ⟨r, h1, h2⟩ := h
  exact List.any_eq_true.2 ⟨r, h1, by rw [h2]; simp⟩
theorem anyS_true {rows : List (List UInt8)} {Q : List UInt8} (h : ∃ r ∈ rows, Q.drop 32 = r.drop 32) : anyS rows Q = true := by
  obtain ⟨r, h1, h2⟩ := h
  exact List.any_eq_true.2 ⟨r, h1, by rw [h2]; simp⟩
/-- The rows, in memory: a slice of slices, each in a block of its own (Z), none the slice's. -/
structure RowsAt (w : World) (v : Value) (rows : List (List UInt8)) (Y Z : List Nat) (rb c : Nat) (vs : List Value) : Prop where
  form : v = .slice (some ⟨rb, 0, none⟩) rows.length c
  rb1 : rb ∈ Y
  rb2 : rb ∉ Z
  sub : ∀ z ∈ Z, z ∈ Y
  own : w.ownsRow 0 22 1 v rows.length vs
  each : ∀ (j : Nat) (u : Value), vs[j]? = some u → ∃ (x : Nat) (r : List UInt8), u = .slice (some ⟨x, 0, none⟩) 64 64 ∧ x ∈ Z ∧ rows[j]? = some r ∧ r.length = 64 ∧ Blk w x (bvs r) 5
theorem own_same {w w' : World} {v : Value} {e : TypeId} {n rb c : Nat} {vs : List Value} (own : w.ownsRow 0 e 1 v n vs) (hv : v = .slice (some ⟨rb, 0, none⟩) n c) (h : w'.heap[rb]? = w.heap[rb]?) : w'.ownsRow 0 e 1 v n vs := by
  obtain ⟨h1, h2⟩ := own
  refine ⟨h1, ?_⟩
  rcases h2 with h2 | ⟨g, cap, cur, hv', hg, hh, r⟩
  · exact .inl h2
  · refine .inr ⟨g, cap, cur, hv', hg, ?_, r⟩
    rw [hv] at hv'
    injection hv' with e1 _ _
    injection e1 with e1
    injection e1 with e1
    rw [← e1]
    rw [← e1] at hh
    rw [h]; exact hh
theorem RowsAt.same {w w' : World} {v : Value} {rows : List (List UInt8)} {Y Z Y' : List Nat} {rb c : Nat} {vs : List Value} (h : RowsAt w v rows Y Z rb c vs) (sm : Same Y w w') (hY : ∀ x ∈ Y, x ∈ Y') : RowsAt w' v rows Y' Z rb c vs :=
  ⟨h.form, hY _ h.rb1, h.rb2, fun z hz => hY z (h.sub z hz), own_same h.own h.form (sm _ h.rb1), fun j u hu => by
    obtain ⟨x, r, h1, h2, h4, h5, h6⟩ := h.each j u hu
    exact ⟨x, r, h1, h2, h4, h5, sm.blk (h.sub x h2) h6⟩⟩
/-- One row more. -/
theorem RowsAt.push {w0 w w' : World} {B g p : Nat} {st : DS} {v v' : Value} {rows : List (List UInt8)} {Y Z : List Nat} {rb c s : Nat} {vs : List Value} {r : List UInt8} (hA : At w0 w B g p st Y) (h : RowsAt w v rows Y Z rb c vs)
    (hs : s ∈ Y) (hsr : s ≠ rb) (hb : Blk w s (bvs r) 5) (h64 : r.length = 64)
    (ap : Apd 0 22 1 (w.alloc (.cells #[.slice (some ⟨s, 0, none⟩) 64 64] 22)) v rows.length vs w' v' (rows.length + 1) (vs ++ [.slice (some ⟨s, 0, none⟩) 64 64])) :
    ∃ rb' c' Y', At w0 w' B g p st Y' ∧ RowsAt w' v' (rows ++ [r]) Y' (s :: Z) rb' c' (vs ++ [.slice (some ⟨s, 0, none⟩) 64 64]) ∧ (∀ z ∈ Z, w'.heap[z]? = w.heap[z]?) := by
  have hA1 := hA.alloc (.cells #[.slice (some ⟨s, 0, none⟩) 64 64] 22)
  have hob : v.ownBlock = some rb := by rw [h.form]; rfl
  have hg := ap.grown
  rw [hob] at hg
  have tg : Turns [rb] (w.alloc (.cells #[.slice (some ⟨s, 0, none⟩) 64 64] 22)) w' := Turns.of_grown hg (by intro k hk; injection hk with hk; subst hk; exact .inl (by simp))
  have hL : ∀ x ∈ [rb], x ∈ w.heap.size :: Y := by intro x hx; simp at hx; subst hx; exact List.mem_cons_of_mem _ h.rb1
  have hA2 := hA1.turn tg hL
  have keep : ∀ z ∈ s :: Z, w'.heap[z]? = w.heap[z]? := by
    intro z hz
    have hzY : z ∈ Y := by rcases List.mem_cons.1 hz with rfl | hz; exact hs; exact h.sub z hz
    have hzr : z ≠ rb := by rcases List.mem_cons.1 hz with rfl | hz; exact hsr; exact fun e => h.rb2 (e ▸ hz)
    have hlt := (hA.side z hzY).2
    rw [hg.block z (by simp; omega) (fun e => by injection e with e; exact hzr e), Below.heap_alloc _ _ _ hlt]
  have hlen := ap.own
  obtain ⟨rb', cap, cur, hv', _, hh, _⟩ : ∃ g cap cur, v' = .slice (some ⟨g, 0, none⟩) (rows.length + 1) cap ∧ 0 ≤ g ∧ w'.heap[g]? = some (.cells cur 22 (0, 0)) ∧ True := by
    rcases ap.own.2 with ⟨_, h0⟩ | ⟨g, cap, cur, hv, hg, hh, _⟩
    · omega
    · exact ⟨g, cap, cur, hv, hg, hh, trivial⟩
  have hrb' : rb' = rb ∨ (w.heap.size + 1 ≤ rb' ∧ rb' < w'.heap.size) := by
    rcases ap.lies with hl | ⟨g, hl, hge⟩
    · rw [hob, hv'] at hl; simp only [Value.ownBlock, Option.some.injEq] at hl; exact .inl hl
    · rw [hv'] at hl; simp only [Value.ownBlock, Option.some.injEq] at hl
      subst hl
      exact .inr ⟨by simpa using hge, (Array.getElem?_eq_some_iff.1 hh).1⟩
  have hrZ : rb' ∉ s :: Z := by
    intro hm
    have hzY : rb' ∈ Y := by rcases List.mem_cons.1 hm with e | hz; rw [e]; exact hs; exact h.sub _ hz
    rcases hrb' with e | ⟨h1, _⟩
    · subst e
      rcases List.mem_cons.1 hm with e | hz
      · exact hsr e.symm
      · exact h.rb2 hz
    · have := (hA.side _ hzY).2; omega
  have hA3 : ∃ Y', At w0 w' B g p st Y' ∧ rb' ∈ Y' ∧ ∀ z ∈ Y, z ∈ Y' := by
    rcases hrb' with e | ⟨h1, h2⟩
    · subst e; exact ⟨_, hA2, List.mem_cons_of_mem _ h.rb1, fun z hz => List.mem_cons_of_mem _ hz⟩
    · exact ⟨_, hA1.more' tg hL (by simpa using h1) h2, by simp, fun z hz => List.mem_cons_of_mem _ (List.mem_cons_of_mem _ hz)⟩
  obtain ⟨Y', hA3, hr3, hs3⟩ := hA3
  refine ⟨rb', cap, Y', hA3, ⟨by rw [hv']; simp, hr3, hrZ, ?_, ?_, fun j u hu => ?_⟩, fun z hz => keep z (List.mem_cons_of_mem _ hz)⟩
  · intro z hz
    rcases List.mem_cons.1 hz with rfl | hz
    · exact hs3 _ hs
    · exact hs3 _ (h.sub z hz)
  · have := ap.own
    simpa using this
  · have hvl : vs.length = rows.length := by have := h.own.1; omega
    by_cases hj : j < vs.length
    · rw [List.getElem?_append_left hj] at hu
      obtain ⟨x, r', h1, h2, h4, h5, h6⟩ := h.each j u hu
      refine ⟨x, r', h1, List.mem_cons_of_mem _ h2, by rw [List.getElem?_append_left (by omega)]; exact h4, h5, ?_⟩
      unfold Blk at *; rw [keep x (List.mem_cons_of_mem _ h2)]; exact h6
    · have hj' : j = vs.length := by
        have := (List.getElem?_eq_some_iff.1 hu).1
        simp at this; omega
      subst hj'
      rw [List.getElem?_append_right (Nat.le_refl _)] at hu
      simp at hu
      refine ⟨s, r, hu.symm, by simp, by rw [hvl, List.getElem?_append_right (Nat.le_refl _)]; simp, h64, ?_⟩
      unfold Blk at *; rw [keep s (by simp)]; exact hb

set_option maxRecDepth 100000 in
set_option maxHeartbeats 4000000 in
theorem DiskStays_walk (Aa Al Ap : Option Addr) (na ca nl cl cp : Nat) (a : List UInt8) (ls : List (List UInt8)) (picks : List Int) (w : World)
    (ha : Sl w w.heap.size 1 (.slice Aa na ca) na (bvs a)) (hl : Sls w w.heap.size (.slice Al nl cl) nl ls)
    (hp : Sl w w.heap.size 1 (.slice Ap picks.length cp) picks.length (picks.map (Value.int .i64))) (hpi : ∀ z ∈ picks, -9223372036854775808 ≤ z ∧ z ≤ 9223372036854775807) :
    Calls Try.prog 5 #[.slice Aa na ca, .slice Al nl cl, .slice Ap picks.length cp] w fun e w' => e = .returned (.bool true) ∧ Below w.heap.size w w' := by
  have KN := Lib.hid (known_any w)
  have ma : na ≤ 9223372036854775807 := by
    obtain ⟨_, _, _, ee, h1, h2, _⟩ := ha
    injection ee with _ _ e3
    subst e3
    unfold maxLen at h2; omega
  have ml : nl ≤ 9223372036854775807 := by
    obtain ⟨_, _, ee, h1, h2⟩ := hl.form
    injection ee with _ _ e3
    subst e3
    unfold maxLen at h2; omega
  have la := ha.1
  rw [bvs_length] at la
  by_cases ha64 : 64 < na
  · clear ha hl hp la
    go_enter Try.func5, Try.ntmps5
    go_wp2_with fail
    refine KN.out.mono ?_
    rintro e w1 ⟨rfl, bel1⟩
    clear KN
    go_wp2_with fail
    go_ret
    exact ⟨rfl, bel1⟩
  by_cases hl8 : 8 < nl
  · clear ha hl hp la
    go_enter Try.func5, Try.ntmps5
    go_wp2_with fail
    refine KN.out.mono ?_
    rintro e w1 ⟨rfl, bel1⟩
    clear KN
    go_wp2_with fail
    go_ret
    exact ⟨rfl, bel1⟩
  obtain rfl : na = a.length := by omega
  have hal : a.length ≤ 64 := by omega
  have hpl : (pageOf a).length = 64 := pageOf_length a hal
  clear la
  have mk := run_make64
  go_enter Try.func5, Try.ntmps5
  go_wp2_with fail
  refine KN.out.mono ?_
  rintro e w1 ⟨rfl, bel1⟩
  clear KN
  have NW := Lib.hid (New_at 4 (by omega) (by omega) bel1)
  go_wp2_with fail
  refine NW.out.mono ?_
  rintro e w2 ⟨B, g, rfl, hA2, -⟩
  clear NW bel1
  have hA3 := hA2.alloc (.cells (bvs (zeros 64)).toArray 5)
  obtain ⟨v4, w4, hr4, rfl, hb4, t4⟩ := run_copy_blk (P := Try.prog) (s := 22) (dLen := 64) (dCap := 64) (o := 0) T8 3 (Blk.new w2 (bvs (zeros 64)) 5) (hA3.arg ha) (bvs_one _) (by rw [bvs_length, zeros_length]; omega)
  rw [laid_page a hal] at hb4
  have hA4 := hA3.turn t4 (by simp)
  have side4 := (hA4.side w2.heap.size (by simp))
  clear hA3 hA2 t4
  obtain ⟨x, hx⟩ : ∃ x, x = w2.heap.size := ⟨_, rfl⟩
  rw [← hx] at hb4 hA4 hr4
  have hx' := Lib.hid hx
  clear hx side4
  obtain ⟨X, hX⟩ : ∃ X, X = pageOf a := ⟨_, rfl⟩
  rw [← hX] at hb4 hpl
  have hX' := Lib.hid hX
  clear hX
  have lx : ∀ W X', At w W B g 4 X' [x] → Blk W x (bvs X) 5 → Sl W W.heap.size 1 (.slice (some ⟨x, 0, none⟩) 64 64) 64 (bvs X) := fun W X' _ hb => by
    have := hb.sl 0 64 64 1 (by rw [bvs_length]; omega) (Nat.le_refl _) (by simp [maxLen])
    rwa [List.drop_zero, List.take_of_length_le (by rw [bvs_length]; omega)] at this
  have WR := Write_at hA4 1 _ 64 X (lx _ _ hA4 hb4) (by omega) (by omega) rfl (by show 0 ≤ _; omega)
  rw [code_ok _ rfl, show pageOf X = X by unfold pageOf; rw [hpl]; simp] at WR
  replace WR := Lib.hid WR
  rw [hx'.out] at hr4 WR
  go_wp2_with fail
  refine WR.out.mono ?_
  rintro e w5 ⟨rfl, hA5, sm5⟩
  rw [← hx'.out] at hA5 sm5 ⊢
  have hb5 := sm5.blk (by simp) hb4
  clear WR hA4 hb4 sm5 hr4
  have WR := Write_at hA5 2 _ 64 X (lx _ _ hA5 hb5) (by omega) (by omega) (wrote_dead _ _ _ rfl rfl) (by rw [wrote_writes _ _ _ rfl rfl]; show 1 ≤ _; omega)
  rw [code_ok _ (wrote_left _ _ _ rfl rfl), show pageOf X = X by unfold pageOf; rw [hpl]; simp] at WR
  replace WR := Lib.hid WR
  go_wp2_with fail
  refine WR.out.mono ?_
  rintro e w6 ⟨rfl, hA6, sm6⟩
  have hb6 := sm6.blk (by simp) hb5
  clear WR hA5 hb5 sm6
  have SY := Sync_at hA6
  rw [syncCode_ok _ (wrote_left _ _ _ (wrote_left _ _ _ rfl rfl) (wrote_dead _ _ _ rfl rfl)) (wrote_dead _ _ _ (wrote_left _ _ _ rfl rfl) (wrote_dead _ _ _ rfl rfl))] at SY
  replace SY := Lib.hid SY
  go_wp2_with fail
  refine SY.out.mono ?_
  rintro e w7 ⟨rfl, hA7', sm7⟩
  have hb7 := sm7.blk (by simp) hb6
  have hA7 : At w w7 B g 4 (wr2 (sys0 X) []) [x] := hA7'
  clear SY hA6 hb6 sm7 hA7' lx
  have hA8 := hA7.alloc (.cells #[.slice (some ⟨x, 0, none⟩) 64 64] 22)
  have hb8 := hb7.alloc (.cells #[.slice (some ⟨x, 0, none⟩) 64 64] 22)
  have rw8 : ∃ Y Z rb c vs, At w (w7.alloc (.cells #[.slice (some ⟨x, 0, none⟩) 64 64] 22)) B g 4 (wr2 (sys0 X) []) Y ∧ RowsAt (w7.alloc (.cells #[.slice (some ⟨x, 0, none⟩) 64 64] 22)) (.slice (some ⟨w7.heap.size, 0, none⟩) 1 1) (X :: (ls.take 0).map pageOf) Y Z rb c vs ∧ x ∈ Z ∧ Blk (w7.alloc (.cells #[.slice (some ⟨x, 0, none⟩) 64 64] 22)) x (bvs X) 5 := by
    have hne : x ≠ w7.heap.size := fun e => by have := (hA7.side x (by simp)).2; omega
    refine ⟨_, [x], w7.heap.size, 1, [.slice (some ⟨x, 0, none⟩) 64 64], hA8, ⟨rfl, by simp, by simpa using Ne.symm hne, by simp, ⟨rfl, .inr ⟨w7.heap.size, 1, _, rfl, Nat.zero_le _, heap_alloc_new w7 _, Nat.le_refl _, by simp [maxLen], rfl, rfl⟩⟩, fun j u hu => ?_⟩, by simp, hb8⟩
    cases j with
    | zero => simp at hu; subst hu; exact ⟨x, X, rfl, by simp, rfl, hpl, hb8⟩
    | succ j => simp at hu
  clear hA8 hb8 hA7 hb7
  go_wp2_with fail
  go_loopw [10, 11] (fun rv i wr => ∃ k : Nat, k ≤ nl ∧ i = .int .i64 k ∧ (∀ l ∈ ls.take k, l.length ≤ 64) ∧ ∃ Y Z rb c vs, At w wr B g 4 (wr2 (sys0 X) ((ls.take k).map pageOf)) Y ∧ RowsAt wr rv (X :: (ls.take k).map pageOf) Y Z rb c vs ∧ x ∈ Z ∧ Blk wr x (bvs X) 5) (fun _ i _ => nl - (intOf i).toNat)
  case atStart => exact ⟨0, by omega, rfl, by simp, rw8⟩
  case round =>
    clear rw8
    obtain ⟨k, hk, rfl, hle, Y, Z, rb, c, vs, hA, hR, hxZ, hbx⟩ := hrel
    by_cases hlt : k < nl
    · obtain ⟨bl, ol, cc, n', A', l, ⟨c', hv, _⟩, hbl, hcell0, hlk, hln, hsl⟩ := hl.get hlt
      injection hv with e1 e2 e3
      subst e1 e3
      clear e2
      have hcw := Lib.hid (fun W (h : Below w.heap.size w W) => (h.cell (p := ⟨bl, ol + k, none⟩) hbl).trans hcell0)
      have hc := hcw.out wr hA.bel
      clear hcell0
      have mn : n' ≤ 9223372036854775807 := by
        obtain ⟨_, _, _, ee, h1, h2, _⟩ := hsl
        injection ee with _ _ e3
        subst e3
        unfold maxLen at h2; omega
      by_cases hl64 : 64 < n'
      · have bel := hA.bel
        clear hA hR hsl hl hp hbx hle
        go_wp2_with fail
        go_ret
        exact ⟨rfl, bel⟩
      · obtain rfl : n' = l.length := hln.symm
        have hl64' : l.length ≤ 64 := by omega
        have hrl : ((ls.take k).map pageOf).length ≤ 8 := by simp; omega
        generalize hrs : (ls.take k).map pageOf = rs at *
        have hrs' := Lib.hid hrs
        clear hrs
        obtain ⟨k1, k2, k3, k4⟩ := wr2_ok (sys0 X) (by rw [sys0_ok]) (by rw [sys0_ok]) rs
        have k5 : (wr2 (sys0 X) rs).writes.length ≤ 1000000 := by rw [k4, show (sys0 X).writes = [] by rw [sys0_ok]]; simp; omega
        have hlY : ∀ y ∈ Y, y < wr.heap.size := fun y hy => (hA.side y hy).2
        have hA1 := hA.alloc (.cells (bvs (zeros 64)).toArray 5)
        obtain ⟨v5, w5, hr5, rfl, hb5, t5⟩ := run_copy_blk (P := Try.prog) (s := 22) (dLen := 64) (dCap := 64) (o := 0) T8 3 (Blk.new wr (bvs (zeros 64)) 5) (hA1.arg hsl) (bvs_one _) (by rw [bvs_length, zeros_length]; omega)
        rw [laid_page l hl64'] at hb5
        have hA5 := hA1.turn t5 (by simp)
        have sm5 : Same Y wr w5 := fun y hy => by
          have := hlY y hy
          rw [t5.block y (by simp; omega) (by simp; omega), Below.heap_alloc _ _ _ this]
        have hR5 := hR.same sm5 (Y' := wr.heap.size :: Y) (fun z hz => List.mem_cons_of_mem _ hz)
        have hbx5 : Blk w5 x (bvs X) 5 := sm5.blk (hR.sub x hxZ) hbx
        have hsr : wr.heap.size ≠ rb := fun e => by have := hlY rb hR.rb1; omega
        have hpl2 := pageOf_length l hl64'
        have lsl := hb5.sl 0 64 64 1 (by rw [bvs_length, hpl2]; omega) (Nat.le_refl _) (by simp [maxLen])
        rw [List.drop_zero, List.take_of_length_le (by rw [bvs_length, hpl2]; omega)] at lsl
        have WR := Write_at hA5 2 _ 64 (pageOf l) lsl (by omega) (by omega) k2 k5
        rw [code_ok _ k1, show pageOf (pageOf l) = pageOf l by rw [pageOf, hpl2]; simp] at WR
        replace WR := Lib.hid WR
        have hc1 := hcw.out _ hA1.bel
        clear lsl sm5 t5 hA1 hA hbx hR hsl
        go_wp2_with fail
        refine WR.out.mono ?_
        rintro e w6 ⟨rfl, hA6, sm6⟩
        have hR6 := hR5.same sm6 (fun z hz => hz)
        have hb6 := sm6.blk (by simp) hb5
        have hbx6 := sm6.blk (hR5.sub x hxZ) hbx5
        clear WR hR5 hb5 hbx5 hA5 sm6 hr5
        have hrows : (X :: rs).length ≤ 9 := by simp; omega
        generalize hsz : wr.heap.size = s at *
        go_wp2_with (at_builtin; refine wpList_append _ rfl (.tmp 77) (.tmp 79) rfl (run_append_rd _ T35 _ (hR6.own.alloc (.cells #[.slice (some ⟨s, 0, none⟩) 64 64] 22)) (Sl.new w6 #[.slice (some ⟨s, 0, none⟩) 64 64] 22 1 1 rfl (by simp [maxLen])) (by intro u hu; simp at hu; subst hu; rfl) (by simp only [maxLen]; omega) (by omega) (Nat.zero_le _)) rfl rfl ?_; intro v7 w7 ap)
        obtain ⟨rb7, c7, Y7, hA7, hR7, hk7⟩ := hR6.push hA6 (by simp) hsr hb6 hpl2 ap
        have hbx7 : Blk w7 x (bvs X) 5 := by unfold Blk at *; rw [hk7 x hxZ]; exact hbx6
        have et : ls.take (k + 1) = ls.take k ++ [l] := by
          have hk' : k < ls.length := (List.getElem?_eq_some_iff.1 hlk).1
          rw [List.take_succ_eq_append_getElem hk']
          congr 1
          have := (List.getElem?_eq_some_iff.1 hlk).2
          rw [this]
        have er : X :: (ls.take (k + 1)).map pageOf = (X :: rs) ++ [pageOf l] := by rw [et, List.map_append, hrs'.out]; rfl
        have ew : wr2 (sys0 X) ((ls.take (k + 1)).map pageOf) = (wr2 (sys0 X) rs).wrote 2 (pageOf l) := by rw [et, List.map_append, hrs'.out]; exact wr2_snoc _ _ _
        have el : ∀ l' ∈ ls.take (k + 1), l'.length ≤ 64 := by
          rw [et]; intro l' hl'
          rcases List.mem_append.1 hl' with h | h
          · exact hle l' h
          · rcases List.mem_singleton.1 h with rfl; exact hl64'
        have F := Lib.hid (And.intro er (And.intro ew el))
        clear er ew el et hle k1 k2 k3 k4 k5 hrs' hR6 ap hb6 hbx6 hA6 hk7
        go_wp2_with fail
        go_roundw
        case rel => exact ⟨k + 1, by omega, by go_num, F.out.2.2, Y7, _, rb7, c7, _, by rw [F.out.2.1]; exact hA7, by rw [F.out.1]; exact hR7, List.mem_cons_of_mem _ hxZ, hbx7⟩
        case measure => (simp [intOf] <;> omega)
    · obtain rfl : k = nl := by omega
      have hnl : ls.length = k := by obtain ⟨_, h1, _⟩ := hl; exact h1
      rw [List.take_of_length_le (by omega)] at hle hA hR
      have hrl : ((ls.map pageOf).length = k) := by simp [hnl]
      have hrs : ∀ r ∈ ls.map pageOf, r.length = 64 := by
        intro r hr
        obtain ⟨l, h1, rfl⟩ := List.mem_map.1 hr
        exact pageOf_length l (hle l h1)
      have END := stays_end X hpl (ls.map pageOf) hrs picks
      obtain ⟨k1, k2, k3, k4⟩ := wr2_ok (sys0 X) (by rw [sys0_ok]) (by rw [sys0_ok]) (ls.map pageOf)
      rw [show (sys0 X).writes = [] by rw [sys0_ok], List.nil_append] at k4
      generalize ls.map pageOf = rs at *
      have k5 : (wr2 (sys0 X) rs).writes.length ≤ 1000000 := by rw [k4]; simp; omega
      have k6 : (wr2 (sys0 X) rs).fine 4 := by
        unfold DS.fine
        rw [k4]
        intro y hy
        obtain ⟨r, h1, rfl⟩ := List.mem_map.1 hy
        exact ⟨by omega, hrs r h1⟩
      have CR := Lib.hid (Crash_at hA Ap cp picks k6 k5 (hA.arg hp) hpi (fun hne b hb => by
        obtain ⟨_, _, _, ee, _, _, _, hrd⟩ := hp
        injection ee with ee1 _ _
        subst ee1
        obtain ⟨b', o', e1, e2, _⟩ := hrd (by simpa using hne)
        rw [e1] at hb
        injection hb with hb
        subst hb
        exact .inr e2))
      clear k1 k2 k3 k4 k5 k6
      go_wp2_with fail
      refine CR.out.mono ?_
      rintro e w5 ⟨rfl, hA5, sm5⟩
      have hR5 := hR.same sm5 (fun z hz => hz)
      have hbx5 := sm5.blk (hR.sub x hxZ) hbx
      have hxY := hR.sub x hxZ
      have hcd : ((wr2 (sys0 X) rs).crash picks).dead = false := rfl
      generalize (wr2 (sys0 X) rs).crash picks = st5 at *
      clear CR hA hR hbx sm5 hp hl hle
      have RD := Lib.hid (Read_at hA5 1 (by omega) hcd)
      go_wp2_with fail
      refine RD.out.mono ?_
      rintro e w6 ⟨gp, cp', rfl, hsp, -, -, -, hA6, sm6⟩
      rw [END.one] at hsp
      have hR6 := hR5.same sm6 (Y' := gp :: Y) (fun z hz => List.mem_cons_of_mem _ hz)
      have hbx6 := sm6.blk hxY hbx5
      clear RD hA5 hR5 hbx5 sm6
      have RD := Lib.hid (Read_at hA6 2 (by omega) hcd)
      go_wp2_with fail
      refine RD.out.mono ?_
      rintro e w7 ⟨gq, cq, rfl, hsq, hcq, hmq, -, hA7, sm7⟩
      have hR7 := hR6.same sm7 (Y' := gq :: gp :: Y) (fun z hz => List.mem_cons_of_mem _ hz)
      have hbx7 := sm7.blk (List.mem_cons_of_mem _ hxY) hbx6
      have hsp7 := sl_same hsp sm7 (by simp)
      have hql := pageAt_length st5.now 2 4 END.len (by omega)
      have eF := anyF_true END.first
      have eS := anyS_true END.second
      obtain ⟨Q, hQ⟩ : ∃ Q, Q = pageAt st5.now 2 := ⟨_, rfl⟩
      rw [← hQ] at hsq hql eF eS
      clear hQ RD hA6 hR6 hbx6 hsp sm7
      have hrv := hR7.form
      obtain ⟨m, hm⟩ : ∃ m, m = (X :: rs).length := ⟨_, rfl⟩
      rw [← hm] at hrv
      have hm9 : m ≤ 9 := by rw [hm]; simp; omega
      subst hrv
      have hm' := Lib.hid hm
      clear hm
      have EF := Lib.hid eF
      have ES := Lib.hid eS
      clear eF eS
      go_wp2_with fail
      go_loopw [17, 18, 19] (fun f s i wr => ∃ k : Nat, k ≤ m ∧ i = .int .i64 k ∧ f = .bool (anyF ((X :: rs).take k) Q) ∧ s = .bool (anyS ((X :: rs).take k) Q) ∧ At w wr B g 4 st5 (gq :: gp :: Y) ∧ Same (gq :: gp :: Y) w7 wr) (fun _ _ i _ => m - (intOf i).toNat)
      case atStart => exact ⟨0, by omega, rfl, rfl, rfl, hA7, fun _ _ => rfl⟩
      case round =>
        clear hA7
        obtain ⟨j, hj, rfl, rfl, rfl, hA, sm⟩ := hrel
        have hR := hR7.same sm (fun z hz => hz)
        have hsqr := sl_same hsq sm (by simp)
        by_cases hlj : j < m
        · have hvl : vs.length = m := by have := hR.own.1; rw [← hm'.out] at this; omega
          obtain ⟨xk, rk, hu, hxk, hrk, hrk64, hbk⟩ := hR.each j _ (List.getElem?_eq_getElem (by omega : j < vs.length))
          have hcell := hR.own.cells (g := rb) (by rfl) j _ (List.getElem?_eq_getElem (by omega : j < vs.length))
          rw [hu, Addr.add_mid, Nat.zero_add] at hcell
          have l1 := hbk.sl 0 32 64 1 (by rw [bvs_length]; omega) (by omega) (by simp [maxLen])
          have l2 := hbk.sl 32 32 32 1 (by rw [bvs_length]; omega) (by omega) (by simp [maxLen])
          rw [List.drop_zero, show (bvs rk).take (32 * 1) = bvs (rk.take 32) from bvs_take rk 32] at l1
          rw [show ((bvs rk).drop 32).take (32 * 1) = bvs (rk.drop 32) by rw [bvs_drop, List.take_of_length_le (by rw [bvs_length, List.length_drop]; omega)]] at l2
          have q1 := hsqr.to (k := 32) (by omega)
          have q2 := hsqr.from_ (k := 32) (by omega) (by omega)
          rw [bvs_take] at q1
          rw [bvs_drop] at q2
          have hS27 : (fun W => W.cell? ⟨rb, j, none⟩ = some (.slice (some ⟨xk, 0, none⟩) 64 64) ∧ Sl W wr.heap.size 1 (.slice (some ⟨xk, 0, none⟩) 32 64) 32 (bvs (rk.take 32)) ∧ Sl W wr.heap.size 1 (.slice (some ⟨gq, 0, none⟩) 32 cq) 32 (bvs (Q.take 32))) wr.drew := ⟨hcell, l1.drew, q1.drew⟩
          have hS28 : (fun W => W.cell? ⟨rb, j, none⟩ = some (.slice (some ⟨xk, 0, none⟩) 64 64) ∧ Sl W wr.heap.size 1 (.slice (some ⟨xk, 32, none⟩) 32 32) 32 (bvs (rk.drop 32)) ∧ Sl W wr.heap.size 1 (.slice (some ⟨gq, 32, none⟩) 32 (cq - 32)) 32 (bvs (Q.drop 32))) wr.drew.drew := ⟨hcell, l2.drew.drew, q2.drew.drew⟩
          have hA' := hA.drew.drew
          have hA1 := hA.drew
          have et : (X :: rs).take (j + 1) = (X :: rs).take j ++ [rk] := by
            have hj' : j < (X :: rs).length := (List.getElem?_eq_some_iff.1 hrk).1
            rw [List.take_succ_eq_append_getElem hj']
            congr 1
            rw [(List.getElem?_eq_some_iff.1 hrk).2]
          have e1 : anyF ((X :: rs).take (j + 1)) Q = (anyF ((X :: rs).take j) Q || (rk.take 32 == Q.take 32)) := by rw [et, anyF_snoc]
          have e2 : anyS ((X :: rs).take (j + 1)) Q = (anyS ((X :: rs).take j) Q || (rk.drop 32 == Q.drop 32)) := by rw [et, anyS_snoc]
          have E1 := Lib.hid e1
          have E2 := Lib.hid e2
          clear e1 e2 et l1 l2 q1 q2 hsqr hvl hR hcell hbk hu hrk hA hA1
          generalize anyF ((X :: rs).take j) Q = f at *
          generalize anyS ((X :: rs).take j) Q = s at *
          have sm' : Same (gq :: gp :: Y) w7 wr.drew.drew := fun z hz => sm z hz
          clear sm
          have hq1 : (32 : Int) ≤ (cq : Int) := by omega
          have hq2 : ¬ cq = 32 := by omega
          go_wp2_with fail
          cases f
          · refine reg_begin (fun W => W.cell? ⟨rb, j, none⟩ = some (.slice (some ⟨xk, 0, none⟩) 64 64) ∧ Sl W wr.heap.size 1 (.slice (some ⟨xk, 0, none⟩) 32 64) 32 (bvs (rk.take 32)) ∧ Sl W wr.heap.size 1 (.slice (some ⟨gq, 0, none⟩) 32 cq) 32 (bvs (Q.take 32))) (fun _ => True) 14 14 #[false, false, false, false, false, false, false, false, false, false, false, false, false, false] (by kernel_rfl) (by kernel_rfl) (by kernel_rfl) ?_
            refine reg_take 0 100 13 #[true, false, false, false, false, false, false, false, false, false, false, false, false, false] (by rfl) (v := ?_) rfl rfl (by kernel_rfl) (by kernel_rfl) (by kernel_rfl) (by kernel_rfl) (fun _ _ _ h => h) (by rfl) ?_ (Till.mk' hS27 trivial) ?_
            rotate_left
            · rintro W ⟨hS0, hS1, hS2⟩; clear hS1 hS2; go_simp; all_goals with_reducible rfl
            try simp only [List.setIfInBounds_toArray, List.set_cons_succ, List.set_cons_zero]
            refine reg_take 1 101 12 #[true, true, false, false, false, false, false, false, false, false, false, false, false, false] (by rfl) (v := ?_) rfl rfl (by kernel_rfl) (by kernel_rfl) (by kernel_rfl) (by kernel_rfl) (fun _ _ _ h => h) (by rfl) ?_ (Till.mk' hS27 trivial) ?_
            rotate_left
            · rintro W ⟨hS0, hS1, hS2⟩; clear hS1 hS2; go_simp; all_goals with_reducible rfl
            try simp only [List.setIfInBounds_toArray, List.set_cons_succ, List.set_cons_zero]
            refine reg_take 2 102 11 #[true, true, true, false, false, false, false, false, false, false, false, false, false, false] (by rfl) (v := ?_) rfl rfl (by kernel_rfl) (by kernel_rfl) (by kernel_rfl) (by kernel_rfl) (fun _ _ _ h => h) (by rfl) ?_ (Till.mk' hS27 trivial) ?_
            rotate_left
            · rintro W ⟨hS0, hS1, hS2⟩; clear hS1 hS2; go_simp; all_goals with_reducible rfl
            try simp only [List.setIfInBounds_toArray, List.set_cons_succ, List.set_cons_zero]
            refine reg_take 3 103 10 #[true, true, true, true, false, false, false, false, false, false, false, false, false, false] (by rfl) (v := ?_) rfl rfl (by kernel_rfl) (by kernel_rfl) (by kernel_rfl) (by kernel_rfl) (fun _ _ _ h => h) (by rfl) ?_ (Till.mk' hS27 trivial) ?_
            rotate_left
            · rintro W ⟨hS0, hS1, hS2⟩; clear hS1 hS2; go_simp; all_goals with_reducible rfl
            try simp only [List.setIfInBounds_toArray, List.set_cons_succ, List.set_cons_zero]
            refine reg_take 4 104 9 #[true, true, true, true, true, false, false, false, false, false, false, false, false, false] (by rfl) (v := ?_) rfl rfl (by kernel_rfl) (by kernel_rfl) (by kernel_rfl) (by kernel_rfl) (fun _ _ _ h => h) (by rfl) ?_ (Till.mk' hS27 trivial) ?_
            rotate_left
            · rintro W ⟨hS0, hS1, hS2⟩; clear hS1 hS2; go_simp; all_goals with_reducible rfl
            try simp only [List.setIfInBounds_toArray, List.set_cons_succ, List.set_cons_zero]
            refine reg_take 5 105 8 #[true, true, true, true, true, true, false, false, false, false, false, false, false, false] (by rfl) (v := ?_) rfl rfl (by kernel_rfl) (by kernel_rfl) (by kernel_rfl) (by kernel_rfl) (fun _ _ _ h => h) (by rfl) ?_ (Till.mk' hS27 trivial) ?_
            rotate_left
            · rintro W ⟨hS0, hS1, hS2⟩; clear hS1 hS2; go_simp; all_goals with_reducible rfl
            try simp only [List.setIfInBounds_toArray, List.set_cons_succ, List.set_cons_zero]
            refine reg_take 6 106 7 #[true, true, true, true, true, true, true, false, false, false, false, false, false, false] (by rfl) (v := ?_) rfl rfl (by kernel_rfl) (by kernel_rfl) (by kernel_rfl) (by kernel_rfl) (fun _ _ _ h => h) (by rfl) ?_ (Till.mk' hS27 trivial) ?_
            rotate_left
            · rintro W ⟨hS0, hS1, hS2⟩; clear hS1 hS2; go_simp; all_goals with_reducible rfl
            try simp only [List.setIfInBounds_toArray, List.set_cons_succ, List.set_cons_zero]
            refine reg_take 7 107 6 #[true, true, true, true, true, true, true, true, false, false, false, false, false, false] (by rfl) (v := ?_) rfl rfl (by kernel_rfl) (by kernel_rfl) (by kernel_rfl) (by kernel_rfl) (fun _ _ _ h => h) (by rfl) ?_ (Till.mk' hS27 trivial) ?_
            rotate_left
            · rintro W ⟨hS0, hS1, hS2⟩; have hc1 := conv_str (P := Try.prog) (dst := 9) hS1 Try.underlying22 Try.underlying5 Try.underlying9; have hc2 := conv_str (P := Try.prog) (dst := 9) hS2 Try.underlying22 Try.underlying5 Try.underlying9; go_simp; all_goals with_reducible rfl
            try simp only [List.setIfInBounds_toArray, List.set_cons_succ, List.set_cons_zero]
            refine reg_take 8 108 5 #[true, true, true, true, true, true, true, true, true, false, false, false, false, false] (by rfl) (v := ?_) rfl rfl (by kernel_rfl) (by kernel_rfl) (by kernel_rfl) (by kernel_rfl) (fun _ _ _ h => h) (by rfl) ?_ (Till.mk' hS27 trivial) ?_
            rotate_left
            · rintro W ⟨hS0, hS1, hS2⟩; clear hS1 hS2; go_simp; all_goals with_reducible rfl
            try simp only [List.setIfInBounds_toArray, List.set_cons_succ, List.set_cons_zero]
            refine reg_take 9 109 4 #[true, true, true, true, true, true, true, true, true, true, false, false, false, false] (by rfl) (v := ?_) rfl rfl (by kernel_rfl) (by kernel_rfl) (by kernel_rfl) (by kernel_rfl) (fun _ _ _ h => h) (by rfl) ?_ (Till.mk' hS27 trivial) ?_
            rotate_left
            · rintro W ⟨hS0, hS1, hS2⟩; clear hS1 hS2; go_simp; all_goals with_reducible rfl
            try simp only [List.setIfInBounds_toArray, List.set_cons_succ, List.set_cons_zero]
            refine reg_take 10 110 3 #[true, true, true, true, true, true, true, true, true, true, true, false, false, false] (by rfl) (v := ?_) rfl rfl (by kernel_rfl) (by kernel_rfl) (by kernel_rfl) (by kernel_rfl) (fun _ _ _ h => h) (by rfl) ?_ (Till.mk' hS27 trivial) ?_
            rotate_left
            · rintro W ⟨hS0, hS1, hS2⟩; have hc1 := conv_str (P := Try.prog) (dst := 9) hS1 Try.underlying22 Try.underlying5 Try.underlying9; have hc2 := conv_str (P := Try.prog) (dst := 9) hS2 Try.underlying22 Try.underlying5 Try.underlying9; go_simp; all_goals with_reducible rfl
            try simp only [List.setIfInBounds_toArray, List.set_cons_succ, List.set_cons_zero]
            refine reg_take 11 111 2 #[true, true, true, true, true, true, true, true, true, true, true, true, false, false] (by rfl) (v := ?_) rfl rfl (by kernel_rfl) (by kernel_rfl) (by kernel_rfl) (by kernel_rfl) (fun _ _ _ h => h) (by rfl) ?_ (Till.mk' hS27 trivial) ?_
            rotate_left
            · rintro W ⟨hS0, hS1, hS2⟩; clear hS1 hS2; go_simp; all_goals with_reducible rfl
            try simp only [List.setIfInBounds_toArray, List.set_cons_succ, List.set_cons_zero]
            refine reg_take 12 112 1 #[true, true, true, true, true, true, true, true, true, true, true, true, true, false] (by rfl) (v := ?_) rfl rfl (by kernel_rfl) (by kernel_rfl) (by kernel_rfl) (by kernel_rfl) (fun _ _ _ h => h) (by rfl) ?_ (Till.mk' hS27 trivial) ?_
            rotate_left
            · rintro W ⟨hS0, hS1, hS2⟩; clear hS1 hS2; go_simp; all_goals with_reducible rfl
            try simp only [List.setIfInBounds_toArray, List.set_cons_succ, List.set_cons_zero]
            refine reg_take 13 17 0 #[true, true, true, true, true, true, true, true, true, true, true, true, true, true] (by rfl) (v := ?_) rfl rfl (by kernel_rfl) (by kernel_rfl) (by kernel_rfl) (by kernel_rfl) (fun _ _ _ h => h) (by rfl) ?_ (Till.mk' hS27 trivial) ?_
            rotate_left
            · rintro W ⟨hS0, hS1, hS2⟩; clear hS1 hS2; go_simp; all_goals with_reducible rfl
            try simp only [List.setIfInBounds_toArray, List.set_cons_succ, List.set_cons_zero]
            refine reg_done (by kernel_rfl) ?_ _
            go_wp2_with fail
            cases s
            · refine reg_begin (fun W => W.cell? ⟨rb, j, none⟩ = some (.slice (some ⟨xk, 0, none⟩) 64 64) ∧ Sl W wr.heap.size 1 (.slice (some ⟨xk, 32, none⟩) 32 32) 32 (bvs (rk.drop 32)) ∧ Sl W wr.heap.size 1 (.slice (some ⟨gq, 32, none⟩) 32 (cq - 32)) 32 (bvs (Q.drop 32))) (fun _ => True) 14 14 #[false, false, false, false, false, false, false, false, false, false, false, false, false, false] (by kernel_rfl) (by kernel_rfl) (by kernel_rfl) ?_
              refine reg_take 0 113 13 #[true, false, false, false, false, false, false, false, false, false, false, false, false, false] (by rfl) (v := ?_) rfl rfl (by kernel_rfl) (by kernel_rfl) (by kernel_rfl) (by kernel_rfl) (fun _ _ _ h => h) (by rfl) ?_ (Till.mk' hS28 trivial) ?_
              rotate_left
              · rintro W ⟨hS0, hS1, hS2⟩; clear hS1 hS2; go_simp; all_goals with_reducible rfl
              try simp only [List.setIfInBounds_toArray, List.set_cons_succ, List.set_cons_zero]
              refine reg_take 1 114 12 #[true, true, false, false, false, false, false, false, false, false, false, false, false, false] (by rfl) (v := ?_) rfl rfl (by kernel_rfl) (by kernel_rfl) (by kernel_rfl) (by kernel_rfl) (fun _ _ _ h => h) (by rfl) ?_ (Till.mk' hS28 trivial) ?_
              rotate_left
              · rintro W ⟨hS0, hS1, hS2⟩; clear hS1 hS2; go_simp; all_goals with_reducible rfl
              try simp only [List.setIfInBounds_toArray, List.set_cons_succ, List.set_cons_zero]
              refine reg_take 2 115 11 #[true, true, true, false, false, false, false, false, false, false, false, false, false, false] (by rfl) (v := ?_) rfl rfl (by kernel_rfl) (by kernel_rfl) (by kernel_rfl) (by kernel_rfl) (fun _ _ _ h => h) (by rfl) ?_ (Till.mk' hS28 trivial) ?_
              rotate_left
              · rintro W ⟨hS0, hS1, hS2⟩; clear hS1 hS2; go_simp; all_goals with_reducible rfl
              try simp only [List.setIfInBounds_toArray, List.set_cons_succ, List.set_cons_zero]
              refine reg_take 3 116 10 #[true, true, true, true, false, false, false, false, false, false, false, false, false, false] (by rfl) (v := ?_) rfl rfl (by kernel_rfl) (by kernel_rfl) (by kernel_rfl) (by kernel_rfl) (fun _ _ _ h => h) (by rfl) ?_ (Till.mk' hS28 trivial) ?_
              rotate_left
              · rintro W ⟨hS0, hS1, hS2⟩; clear hS1 hS2; go_simp; all_goals with_reducible rfl
              try simp only [List.setIfInBounds_toArray, List.set_cons_succ, List.set_cons_zero]
              refine reg_take 4 117 9 #[true, true, true, true, true, false, false, false, false, false, false, false, false, false] (by rfl) (v := ?_) rfl rfl (by kernel_rfl) (by kernel_rfl) (by kernel_rfl) (by kernel_rfl) (fun _ _ _ h => h) (by rfl) ?_ (Till.mk' hS28 trivial) ?_
              rotate_left
              · rintro W ⟨hS0, hS1, hS2⟩; clear hS1 hS2; go_simp; all_goals with_reducible rfl
              try simp only [List.setIfInBounds_toArray, List.set_cons_succ, List.set_cons_zero]
              refine reg_take 5 118 8 #[true, true, true, true, true, true, false, false, false, false, false, false, false, false] (by rfl) (v := ?_) rfl rfl (by kernel_rfl) (by kernel_rfl) (by kernel_rfl) (by kernel_rfl) (fun _ _ _ h => h) (by rfl) ?_ (Till.mk' hS28 trivial) ?_
              rotate_left
              · rintro W ⟨hS0, hS1, hS2⟩; clear hS1 hS2; go_simp; all_goals with_reducible rfl
              try simp only [List.setIfInBounds_toArray, List.set_cons_succ, List.set_cons_zero]
              refine reg_take 6 119 7 #[true, true, true, true, true, true, true, false, false, false, false, false, false, false] (by rfl) (v := ?_) rfl rfl (by kernel_rfl) (by kernel_rfl) (by kernel_rfl) (by kernel_rfl) (fun _ _ _ h => h) (by rfl) ?_ (Till.mk' hS28 trivial) ?_
              rotate_left
              · rintro W ⟨hS0, hS1, hS2⟩; clear hS1 hS2; go_simp; all_goals with_reducible rfl
              try simp only [List.setIfInBounds_toArray, List.set_cons_succ, List.set_cons_zero]
              refine reg_take 7 120 6 #[true, true, true, true, true, true, true, true, false, false, false, false, false, false] (by rfl) (v := ?_) rfl rfl (by kernel_rfl) (by kernel_rfl) (by kernel_rfl) (by kernel_rfl) (fun _ _ _ h => h) (by rfl) ?_ (Till.mk' hS28 trivial) ?_
              rotate_left
              · rintro W ⟨hS0, hS1, hS2⟩; have hc1 := conv_str (P := Try.prog) (dst := 9) hS1 Try.underlying22 Try.underlying5 Try.underlying9; have hc2 := conv_str (P := Try.prog) (dst := 9) hS2 Try.underlying22 Try.underlying5 Try.underlying9; go_simp; all_goals with_reducible rfl
              try simp only [List.setIfInBounds_toArray, List.set_cons_succ, List.set_cons_zero]
              refine reg_take 8 121 5 #[true, true, true, true, true, true, true, true, true, false, false, false, false, false] (by rfl) (v := ?_) rfl rfl (by kernel_rfl) (by kernel_rfl) (by kernel_rfl) (by kernel_rfl) (fun _ _ _ h => h) (by rfl) ?_ (Till.mk' hS28 trivial) ?_
              rotate_left
              · rintro W ⟨hS0, hS1, hS2⟩; clear hS1 hS2; go_simp; all_goals with_reducible rfl
              try simp only [List.setIfInBounds_toArray, List.set_cons_succ, List.set_cons_zero]
              refine reg_take 9 122 4 #[true, true, true, true, true, true, true, true, true, true, false, false, false, false] (by rfl) (v := ?_) rfl rfl (by kernel_rfl) (by kernel_rfl) (by kernel_rfl) (by kernel_rfl) (fun _ _ _ h => h) (by rfl) ?_ (Till.mk' hS28 trivial) ?_
              rotate_left
              · rintro W ⟨hS0, hS1, hS2⟩; clear hS1 hS2; go_simp; all_goals with_reducible rfl
              try simp only [List.setIfInBounds_toArray, List.set_cons_succ, List.set_cons_zero]
              refine reg_take 10 123 3 #[true, true, true, true, true, true, true, true, true, true, true, false, false, false] (by rfl) (v := ?_) rfl rfl (by kernel_rfl) (by kernel_rfl) (by kernel_rfl) (by kernel_rfl) (fun _ _ _ h => h) (by rfl) ?_ (Till.mk' hS28 trivial) ?_
              rotate_left
              · rintro W ⟨hS0, hS1, hS2⟩; have hc1 := conv_str (P := Try.prog) (dst := 9) hS1 Try.underlying22 Try.underlying5 Try.underlying9; have hc2 := conv_str (P := Try.prog) (dst := 9) hS2 Try.underlying22 Try.underlying5 Try.underlying9; go_simp; all_goals with_reducible rfl
              try simp only [List.setIfInBounds_toArray, List.set_cons_succ, List.set_cons_zero]
              refine reg_take 11 124 2 #[true, true, true, true, true, true, true, true, true, true, true, true, false, false] (by rfl) (v := ?_) rfl rfl (by kernel_rfl) (by kernel_rfl) (by kernel_rfl) (by kernel_rfl) (fun _ _ _ h => h) (by rfl) ?_ (Till.mk' hS28 trivial) ?_
              rotate_left
              · rintro W ⟨hS0, hS1, hS2⟩; clear hS1 hS2; go_simp; all_goals with_reducible rfl
              try simp only [List.setIfInBounds_toArray, List.set_cons_succ, List.set_cons_zero]
              refine reg_take 12 125 1 #[true, true, true, true, true, true, true, true, true, true, true, true, true, false] (by rfl) (v := ?_) rfl rfl (by kernel_rfl) (by kernel_rfl) (by kernel_rfl) (by kernel_rfl) (fun _ _ _ h => h) (by rfl) ?_ (Till.mk' hS28 trivial) ?_
              rotate_left
              · rintro W ⟨hS0, hS1, hS2⟩; clear hS1 hS2; go_simp; all_goals with_reducible rfl
              try simp only [List.setIfInBounds_toArray, List.set_cons_succ, List.set_cons_zero]
              refine reg_take 13 18 0 #[true, true, true, true, true, true, true, true, true, true, true, true, true, true] (by rfl) (v := ?_) rfl rfl (by kernel_rfl) (by kernel_rfl) (by kernel_rfl) (by kernel_rfl) (fun _ _ _ h => h) (by rfl) ?_ (Till.mk' hS28 trivial) ?_
              rotate_left
              · rintro W ⟨hS0, hS1, hS2⟩; clear hS1 hS2; go_simp; all_goals with_reducible rfl
              try simp only [List.setIfInBounds_toArray, List.set_cons_succ, List.set_cons_zero]
              refine reg_done (by kernel_rfl) ?_ _
              go_wp2_with fail
              go_roundw
              case rel => exact ⟨j + 1, by omega, by go_num, (by rw [E1.out]; simp [strOf_toList]), (by rw [E2.out]; simp [strOf_toList]), hA', sm'⟩
              case measure => (simp [intOf] <;> omega)
            · refine reg_begin (fun W => W.cell? ⟨rb, j, none⟩ = some (.slice (some ⟨xk, 0, none⟩) 64 64) ∧ Sl W wr.heap.size 1 (.slice (some ⟨xk, 32, none⟩) 32 32) 32 (bvs (rk.drop 32)) ∧ Sl W wr.heap.size 1 (.slice (some ⟨gq, 32, none⟩) 32 (cq - 32)) 32 (bvs (Q.drop 32))) (fun _ => True) 14 14 #[false, false, false, false, false, false, false, false, false, false, false, false, false, false] (by kernel_rfl) (by kernel_rfl) (by kernel_rfl) ?_
              refine reg_take 0 113 13 #[true, false, false, false, false, false, false, false, false, false, false, false, false, false] (by rfl) (v := ?_) rfl rfl (by kernel_rfl) (by kernel_rfl) (by kernel_rfl) (by kernel_rfl) (fun _ _ _ h => h) (by rfl) ?_ (Till.mk' hS28 trivial) ?_
              rotate_left
              · rintro W ⟨hS0, hS1, hS2⟩; clear hS1 hS2; go_simp; all_goals with_reducible rfl
              try simp only [List.setIfInBounds_toArray, List.set_cons_succ, List.set_cons_zero]
              refine reg_take 1 114 12 #[true, true, false, false, false, false, false, false, false, false, false, false, false, false] (by rfl) (v := ?_) rfl rfl (by kernel_rfl) (by kernel_rfl) (by kernel_rfl) (by kernel_rfl) (fun _ _ _ h => h) (by rfl) ?_ (Till.mk' hS28 trivial) ?_
              rotate_left
              · rintro W ⟨hS0, hS1, hS2⟩; clear hS1 hS2; go_simp; all_goals with_reducible rfl
              try simp only [List.setIfInBounds_toArray, List.set_cons_succ, List.set_cons_zero]
              refine reg_skip 2 115 11 #[true, true, true, false, false, false, false, false, false, false, false, false, false, false] (by rfl) rfl rfl (by kernel_rfl) (by kernel_rfl) (by kernel_rfl) (by kernel_rfl) (fun _ _ _ h => h) (by rfl) (Till.mk' hS28 trivial) ?_
              try simp only [List.setIfInBounds_toArray, List.set_cons_succ, List.set_cons_zero]
              refine reg_skip 3 116 10 #[true, true, true, true, false, false, false, false, false, false, false, false, false, false] (by rfl) rfl rfl (by kernel_rfl) (by kernel_rfl) (by kernel_rfl) (by kernel_rfl) (fun _ _ _ h => h) (by rfl) (Till.mk' hS28 trivial) ?_
              try simp only [List.setIfInBounds_toArray, List.set_cons_succ, List.set_cons_zero]
              refine reg_skip 4 117 9 #[true, true, true, true, true, false, false, false, false, false, false, false, false, false] (by rfl) rfl rfl (by kernel_rfl) (by kernel_rfl) (by kernel_rfl) (by kernel_rfl) (fun _ _ _ h => h) (by rfl) (Till.mk' hS28 trivial) ?_
              try simp only [List.setIfInBounds_toArray, List.set_cons_succ, List.set_cons_zero]
              refine reg_skip 5 118 8 #[true, true, true, true, true, true, false, false, false, false, false, false, false, false] (by rfl) rfl rfl (by kernel_rfl) (by kernel_rfl) (by kernel_rfl) (by kernel_rfl) (fun _ _ _ h => h) (by rfl) (Till.mk' hS28 trivial) ?_
              try simp only [List.setIfInBounds_toArray, List.set_cons_succ, List.set_cons_zero]
              refine reg_skip 6 119 7 #[true, true, true, true, true, true, true, false, false, false, false, false, false, false] (by rfl) rfl rfl (by kernel_rfl) (by kernel_rfl) (by kernel_rfl) (by kernel_rfl) (fun _ _ _ h => h) (by rfl) (Till.mk' hS28 trivial) ?_
              try simp only [List.setIfInBounds_toArray, List.set_cons_succ, List.set_cons_zero]
              refine reg_skip 7 120 6 #[true, true, true, true, true, true, true, true, false, false, false, false, false, false] (by rfl) rfl rfl (by kernel_rfl) (by kernel_rfl) (by kernel_rfl) (by kernel_rfl) (fun _ _ _ h => h) (by rfl) (Till.mk' hS28 trivial) ?_
              try simp only [List.setIfInBounds_toArray, List.set_cons_succ, List.set_cons_zero]
              refine reg_skip 8 121 5 #[true, true, true, true, true, true, true, true, true, false, false, false, false, false] (by rfl) rfl rfl (by kernel_rfl) (by kernel_rfl) (by kernel_rfl) (by kernel_rfl) (fun _ _ _ h => h) (by rfl) (Till.mk' hS28 trivial) ?_
              try simp only [List.setIfInBounds_toArray, List.set_cons_succ, List.set_cons_zero]
              refine reg_skip 9 122 4 #[true, true, true, true, true, true, true, true, true, true, false, false, false, false] (by rfl) rfl rfl (by kernel_rfl) (by kernel_rfl) (by kernel_rfl) (by kernel_rfl) (fun _ _ _ h => h) (by rfl) (Till.mk' hS28 trivial) ?_
              try simp only [List.setIfInBounds_toArray, List.set_cons_succ, List.set_cons_zero]
              refine reg_skip 10 123 3 #[true, true, true, true, true, true, true, true, true, true, true, false, false, false] (by rfl) rfl rfl (by kernel_rfl) (by kernel_rfl) (by kernel_rfl) (by kernel_rfl) (fun _ _ _ h => h) (by rfl) (Till.mk' hS28 trivial) ?_
              try simp only [List.setIfInBounds_toArray, List.set_cons_succ, List.set_cons_zero]
              refine reg_skip 11 124 2 #[true, true, true, true, true, true, true, true, true, true, true, true, false, false] (by rfl) rfl rfl (by kernel_rfl) (by kernel_rfl) (by kernel_rfl) (by kernel_rfl) (fun _ _ _ h => h) (by rfl) (Till.mk' hS28 trivial) ?_
              try simp only [List.setIfInBounds_toArray, List.set_cons_succ, List.set_cons_zero]
              refine reg_take 12 125 1 #[true, true, true, true, true, true, true, true, true, true, true, true, true, false] (by rfl) (v := ?_) rfl rfl (by kernel_rfl) (by kernel_rfl) (by kernel_rfl) (by kernel_rfl) (fun _ _ _ h => h) (by rfl) ?_ (Till.mk' hS28 trivial) ?_
              rotate_left
              · rintro W ⟨hS0, hS1, hS2⟩; clear hS1 hS2; go_simp; all_goals with_reducible rfl
              try simp only [List.setIfInBounds_toArray, List.set_cons_succ, List.set_cons_zero]
              refine reg_take 13 18 0 #[true, true, true, true, true, true, true, true, true, true, true, true, true, true] (by rfl) (v := ?_) rfl rfl (by kernel_rfl) (by kernel_rfl) (by kernel_rfl) (by kernel_rfl) (fun _ _ _ h => h) (by rfl) ?_ (Till.mk' hS28 trivial) ?_
              rotate_left
              · rintro W ⟨hS0, hS1, hS2⟩; clear hS1 hS2; go_simp; all_goals with_reducible rfl
              try simp only [List.setIfInBounds_toArray, List.set_cons_succ, List.set_cons_zero]
              refine reg_done (by kernel_rfl) ?_ _
              go_wp2_with fail
              go_roundw
              case rel => exact ⟨j + 1, by omega, by go_num, (by rw [E1.out]; simp [strOf_toList]), (by rw [E2.out]; simp [strOf_toList]), hA', sm'⟩
              case measure => (simp [intOf] <;> omega)
          · refine reg_begin (fun W => W.cell? ⟨rb, j, none⟩ = some (.slice (some ⟨xk, 0, none⟩) 64 64) ∧ Sl W wr.heap.size 1 (.slice (some ⟨xk, 0, none⟩) 32 64) 32 (bvs (rk.take 32)) ∧ Sl W wr.heap.size 1 (.slice (some ⟨gq, 0, none⟩) 32 cq) 32 (bvs (Q.take 32))) (fun _ => True) 14 14 #[false, false, false, false, false, false, false, false, false, false, false, false, false, false] (by kernel_rfl) (by kernel_rfl) (by kernel_rfl) ?_
            refine reg_take 0 100 13 #[true, false, false, false, false, false, false, false, false, false, false, false, false, false] (by rfl) (v := ?_) rfl rfl (by kernel_rfl) (by kernel_rfl) (by kernel_rfl) (by kernel_rfl) (fun _ _ _ h => h) (by rfl) ?_ (Till.mk' hS27 trivial) ?_
            rotate_left
            · rintro W ⟨hS0, hS1, hS2⟩; clear hS1 hS2; go_simp; all_goals with_reducible rfl
            try simp only [List.setIfInBounds_toArray, List.set_cons_succ, List.set_cons_zero]
            refine reg_take 1 101 12 #[true, true, false, false, false, false, false, false, false, false, false, false, false, false] (by rfl) (v := ?_) rfl rfl (by kernel_rfl) (by kernel_rfl) (by kernel_rfl) (by kernel_rfl) (fun _ _ _ h => h) (by rfl) ?_ (Till.mk' hS27 trivial) ?_
            rotate_left
            · rintro W ⟨hS0, hS1, hS2⟩; clear hS1 hS2; go_simp; all_goals with_reducible rfl
            try simp only [List.setIfInBounds_toArray, List.set_cons_succ, List.set_cons_zero]
            refine reg_skip 2 102 11 #[true, true, true, false, false, false, false, false, false, false, false, false, false, false] (by rfl) rfl rfl (by kernel_rfl) (by kernel_rfl) (by kernel_rfl) (by kernel_rfl) (fun _ _ _ h => h) (by rfl) (Till.mk' hS27 trivial) ?_
            try simp only [List.setIfInBounds_toArray, List.set_cons_succ, List.set_cons_zero]
            refine reg_skip 3 103 10 #[true, true, true, true, false, false, false, false, false, false, false, false, false, false] (by rfl) rfl rfl (by kernel_rfl) (by kernel_rfl) (by kernel_rfl) (by kernel_rfl) (fun _ _ _ h => h) (by rfl) (Till.mk' hS27 trivial) ?_
            try simp only [List.setIfInBounds_toArray, List.set_cons_succ, List.set_cons_zero]
            refine reg_skip 4 104 9 #[true, true, true, true, true, false, false, false, false, false, false, false, false, false] (by rfl) rfl rfl (by kernel_rfl) (by kernel_rfl) (by kernel_rfl) (by kernel_rfl) (fun _ _ _ h => h) (by rfl) (Till.mk' hS27 trivial) ?_
            try simp only [List.setIfInBounds_toArray, List.set_cons_succ, List.set_cons_zero]
            refine reg_skip 5 105 8 #[true, true, true, true, true, true, false, false, false, false, false, false, false, false] (by rfl) rfl rfl (by kernel_rfl) (by kernel_rfl) (by kernel_rfl) (by kernel_rfl) (fun _ _ _ h => h) (by rfl) (Till.mk' hS27 trivial) ?_
            try simp only [List.setIfInBounds_toArray, List.set_cons_succ, List.set_cons_zero]
            refine reg_skip 6 106 7 #[true, true, true, true, true, true, true, false, false, false, false, false, false, false] (by rfl) rfl rfl (by kernel_rfl) (by kernel_rfl) (by kernel_rfl) (by kernel_rfl) (fun _ _ _ h => h) (by rfl) (Till.mk' hS27 trivial) ?_
            try simp only [List.setIfInBounds_toArray, List.set_cons_succ, List.set_cons_zero]
            refine reg_skip 7 107 6 #[true, true, true, true, true, true, true, true, false, false, false, false, false, false] (by rfl) rfl rfl (by kernel_rfl) (by kernel_rfl) (by kernel_rfl) (by kernel_rfl) (fun _ _ _ h => h) (by rfl) (Till.mk' hS27 trivial) ?_
            try simp only [List.setIfInBounds_toArray, List.set_cons_succ, List.set_cons_zero]
            refine reg_skip 8 108 5 #[true, true, true, true, true, true, true, true, true, false, false, false, false, false] (by rfl) rfl rfl (by kernel_rfl) (by kernel_rfl) (by kernel_rfl) (by kernel_rfl) (fun _ _ _ h => h) (by rfl) (Till.mk' hS27 trivial) ?_
            try simp only [List.setIfInBounds_toArray, List.set_cons_succ, List.set_cons_zero]
            refine reg_skip 9 109 4 #[true, true, true, true, true, true, true, true, true, true, false, false, false, false] (by rfl) rfl rfl (by kernel_rfl) (by kernel_rfl) (by kernel_rfl) (by kernel_rfl) (fun _ _ _ h => h) (by rfl) (Till.mk' hS27 trivial) ?_
            try simp only [List.setIfInBounds_toArray, List.set_cons_succ, List.set_cons_zero]
            refine reg_skip 10 110 3 #[true, true, true, true, true, true, true, true, true, true, true, false, false, false] (by rfl) rfl rfl (by kernel_rfl) (by kernel_rfl) (by kernel_rfl) (by kernel_rfl) (fun _ _ _ h => h) (by rfl) (Till.mk' hS27 trivial) ?_
            try simp only [List.setIfInBounds_toArray, List.set_cons_succ, List.set_cons_zero]
            refine reg_skip 11 111 2 #[true, true, true, true, true, true, true, true, true, true, true, true, false, false] (by rfl) rfl rfl (by kernel_rfl) (by kernel_rfl) (by kernel_rfl) (by kernel_rfl) (fun _ _ _ h => h) (by rfl) (Till.mk' hS27 trivial) ?_
            try simp only [List.setIfInBounds_toArray, List.set_cons_succ, List.set_cons_zero]
            refine reg_take 12 112 1 #[true, true, true, true, true, true, true, true, true, true, true, true, true, false] (by rfl) (v := ?_) rfl rfl (by kernel_rfl) (by kernel_rfl) (by kernel_rfl) (by kernel_rfl) (fun _ _ _ h => h) (by rfl) ?_ (Till.mk' hS27 trivial) ?_
            rotate_left
            · rintro W ⟨hS0, hS1, hS2⟩; clear hS1 hS2; go_simp; all_goals with_reducible rfl
            try simp only [List.setIfInBounds_toArray, List.set_cons_succ, List.set_cons_zero]
            refine reg_take 13 17 0 #[true, true, true, true, true, true, true, true, true, true, true, true, true, true] (by rfl) (v := ?_) rfl rfl (by kernel_rfl) (by kernel_rfl) (by kernel_rfl) (by kernel_rfl) (fun _ _ _ h => h) (by rfl) ?_ (Till.mk' hS27 trivial) ?_
            rotate_left
            · rintro W ⟨hS0, hS1, hS2⟩; clear hS1 hS2; go_simp; all_goals with_reducible rfl
            try simp only [List.setIfInBounds_toArray, List.set_cons_succ, List.set_cons_zero]
            refine reg_done (by kernel_rfl) ?_ _
            go_wp2_with fail
            cases s
            · refine reg_begin (fun W => W.cell? ⟨rb, j, none⟩ = some (.slice (some ⟨xk, 0, none⟩) 64 64) ∧ Sl W wr.heap.size 1 (.slice (some ⟨xk, 32, none⟩) 32 32) 32 (bvs (rk.drop 32)) ∧ Sl W wr.heap.size 1 (.slice (some ⟨gq, 32, none⟩) 32 (cq - 32)) 32 (bvs (Q.drop 32))) (fun _ => True) 14 14 #[false, false, false, false, false, false, false, false, false, false, false, false, false, false] (by kernel_rfl) (by kernel_rfl) (by kernel_rfl) ?_
              refine reg_take 0 113 13 #[true, false, false, false, false, false, false, false, false, false, false, false, false, false] (by rfl) (v := ?_) rfl rfl (by kernel_rfl) (by kernel_rfl) (by kernel_rfl) (by kernel_rfl) (fun _ _ _ h => h) (by rfl) ?_ (Till.mk' hS28 trivial) ?_
              rotate_left
              · rintro W ⟨hS0, hS1, hS2⟩; clear hS1 hS2; go_simp; all_goals with_reducible rfl
              try simp only [List.setIfInBounds_toArray, List.set_cons_succ, List.set_cons_zero]
              refine reg_take 1 114 12 #[true, true, false, false, false, false, false, false, false, false, false, false, false, false] (by rfl) (v := ?_) rfl rfl (by kernel_rfl) (by kernel_rfl) (by kernel_rfl) (by kernel_rfl) (fun _ _ _ h => h) (by rfl) ?_ (Till.mk' hS28 trivial) ?_
              rotate_left
              · rintro W ⟨hS0, hS1, hS2⟩; clear hS1 hS2; go_simp; all_goals with_reducible rfl
              try simp only [List.setIfInBounds_toArray, List.set_cons_succ, List.set_cons_zero]
              refine reg_take 2 115 11 #[true, true, true, false, false, false, false, false, false, false, false, false, false, false] (by rfl) (v := ?_) rfl rfl (by kernel_rfl) (by kernel_rfl) (by kernel_rfl) (by kernel_rfl) (fun _ _ _ h => h) (by rfl) ?_ (Till.mk' hS28 trivial) ?_
              rotate_left
              · rintro W ⟨hS0, hS1, hS2⟩; clear hS1 hS2; go_simp; all_goals with_reducible rfl
              try simp only [List.setIfInBounds_toArray, List.set_cons_succ, List.set_cons_zero]
              refine reg_take 3 116 10 #[true, true, true, true, false, false, false, false, false, false, false, false, false, false] (by rfl) (v := ?_) rfl rfl (by kernel_rfl) (by kernel_rfl) (by kernel_rfl) (by kernel_rfl) (fun _ _ _ h => h) (by rfl) ?_ (Till.mk' hS28 trivial) ?_
              rotate_left
              · rintro W ⟨hS0, hS1, hS2⟩; clear hS1 hS2; go_simp; all_goals with_reducible rfl
              try simp only [List.setIfInBounds_toArray, List.set_cons_succ, List.set_cons_zero]
              refine reg_take 4 117 9 #[true, true, true, true, true, false, false, false, false, false, false, false, false, false] (by rfl) (v := ?_) rfl rfl (by kernel_rfl) (by kernel_rfl) (by kernel_rfl) (by kernel_rfl) (fun _ _ _ h => h) (by rfl) ?_ (Till.mk' hS28 trivial) ?_
              rotate_left
              · rintro W ⟨hS0, hS1, hS2⟩; clear hS1 hS2; go_simp; all_goals with_reducible rfl
              try simp only [List.setIfInBounds_toArray, List.set_cons_succ, List.set_cons_zero]
              refine reg_take 5 118 8 #[true, true, true, true, true, true, false, false, false, false, false, false, false, false] (by rfl) (v := ?_) rfl rfl (by kernel_rfl) (by kernel_rfl) (by kernel_rfl) (by kernel_rfl) (fun _ _ _ h => h) (by rfl) ?_ (Till.mk' hS28 trivial) ?_
              rotate_left
              · rintro W ⟨hS0, hS1, hS2⟩; clear hS1 hS2; go_simp; all_goals with_reducible rfl
              try simp only [List.setIfInBounds_toArray, List.set_cons_succ, List.set_cons_zero]
              refine reg_take 6 119 7 #[true, true, true, true, true, true, true, false, false, false, false, false, false, false] (by rfl) (v := ?_) rfl rfl (by kernel_rfl) (by kernel_rfl) (by kernel_rfl) (by kernel_rfl) (fun _ _ _ h => h) (by rfl) ?_ (Till.mk' hS28 trivial) ?_
              rotate_left
              · rintro W ⟨hS0, hS1, hS2⟩; clear hS1 hS2; go_simp; all_goals with_reducible rfl
              try simp only [List.setIfInBounds_toArray, List.set_cons_succ, List.set_cons_zero]
              refine reg_take 7 120 6 #[true, true, true, true, true, true, true, true, false, false, false, false, false, false] (by rfl) (v := ?_) rfl rfl (by kernel_rfl) (by kernel_rfl) (by kernel_rfl) (by kernel_rfl) (fun _ _ _ h => h) (by rfl) ?_ (Till.mk' hS28 trivial) ?_
              rotate_left
              · rintro W ⟨hS0, hS1, hS2⟩; have hc1 := conv_str (P := Try.prog) (dst := 9) hS1 Try.underlying22 Try.underlying5 Try.underlying9; have hc2 := conv_str (P := Try.prog) (dst := 9) hS2 Try.underlying22 Try.underlying5 Try.underlying9; go_simp; all_goals with_reducible rfl
              try simp only [List.setIfInBounds_toArray, List.set_cons_succ, List.set_cons_zero]
              refine reg_take 8 121 5 #[true, true, true, true, true, true, true, true, true, false, false, false, false, false] (by rfl) (v := ?_) rfl rfl (by kernel_rfl) (by kernel_rfl) (by kernel_rfl) (by kernel_rfl) (fun _ _ _ h => h) (by rfl) ?_ (Till.mk' hS28 trivial) ?_
              rotate_left
              · rintro W ⟨hS0, hS1, hS2⟩; clear hS1 hS2; go_simp; all_goals with_reducible rfl
              try simp only [List.setIfInBounds_toArray, List.set_cons_succ, List.set_cons_zero]
              refine reg_take 9 122 4 #[true, true, true, true, true, true, true, true, true, true, false, false, false, false] (by rfl) (v := ?_) rfl rfl (by kernel_rfl) (by kernel_rfl) (by kernel_rfl) (by kernel_rfl) (fun _ _ _ h => h) (by rfl) ?_ (Till.mk' hS28 trivial) ?_
              rotate_left
              · rintro W ⟨hS0, hS1, hS2⟩; clear hS1 hS2; go_simp; all_goals with_reducible rfl
              try simp only [List.setIfInBounds_toArray, List.set_cons_succ, List.set_cons_zero]
              refine reg_take 10 123 3 #[true, true, true, true, true, true, true, true, true, true, true, false, false, false] (by rfl) (v := ?_) rfl rfl (by kernel_rfl) (by kernel_rfl) (by kernel_rfl) (by kernel_rfl) (fun _ _ _ h => h) (by rfl) ?_ (Till.mk' hS28 trivial) ?_
              rotate_left
              · rintro W ⟨hS0, hS1, hS2⟩; have hc1 := conv_str (P := Try.prog) (dst := 9) hS1 Try.underlying22 Try.underlying5 Try.underlying9; have hc2 := conv_str (P := Try.prog) (dst := 9) hS2 Try.underlying22 Try.underlying5 Try.underlying9; go_simp; all_goals with_reducible rfl
              try simp only [List.setIfInBounds_toArray, List.set_cons_succ, List.set_cons_zero]
              refine reg_take 11 124 2 #[true, true, true, true, true, true, true, true, true, true, true, true, false, false] (by rfl) (v := ?_) rfl rfl (by kernel_rfl) (by kernel_rfl) (by kernel_rfl) (by kernel_rfl) (fun _ _ _ h => h) (by rfl) ?_ (Till.mk' hS28 trivial) ?_
              rotate_left
              · rintro W ⟨hS0, hS1, hS2⟩; clear hS1 hS2; go_simp; all_goals with_reducible rfl
              try simp only [List.setIfInBounds_toArray, List.set_cons_succ, List.set_cons_zero]
              refine reg_take 12 125 1 #[true, true, true, true, true, true, true, true, true, true, true, true, true, false] (by rfl) (v := ?_) rfl rfl (by kernel_rfl) (by kernel_rfl) (by kernel_rfl) (by kernel_rfl) (fun _ _ _ h => h) (by rfl) ?_ (Till.mk' hS28 trivial) ?_
              rotate_left
              · rintro W ⟨hS0, hS1, hS2⟩; clear hS1 hS2; go_simp; all_goals with_reducible rfl
              try simp only [List.setIfInBounds_toArray, List.set_cons_succ, List.set_cons_zero]
              refine reg_take 13 18 0 #[true, true, true, true, true, true, true, true, true, true, true, true, true, true] (by rfl) (v := ?_) rfl rfl (by kernel_rfl) (by kernel_rfl) (by kernel_rfl) (by kernel_rfl) (fun _ _ _ h => h) (by rfl) ?_ (Till.mk' hS28 trivial) ?_
              rotate_left
              · rintro W ⟨hS0, hS1, hS2⟩; clear hS1 hS2; go_simp; all_goals with_reducible rfl
              try simp only [List.setIfInBounds_toArray, List.set_cons_succ, List.set_cons_zero]
              refine reg_done (by kernel_rfl) ?_ _
              go_wp2_with fail
              go_roundw
              case rel => exact ⟨j + 1, by omega, by go_num, (by rw [E1.out]; simp [strOf_toList]), (by rw [E2.out]; simp [strOf_toList]), hA', sm'⟩
              case measure => (simp [intOf] <;> omega)
            · refine reg_begin (fun W => W.cell? ⟨rb, j, none⟩ = some (.slice (some ⟨xk, 0, none⟩) 64 64) ∧ Sl W wr.heap.size 1 (.slice (some ⟨xk, 32, none⟩) 32 32) 32 (bvs (rk.drop 32)) ∧ Sl W wr.heap.size 1 (.slice (some ⟨gq, 32, none⟩) 32 (cq - 32)) 32 (bvs (Q.drop 32))) (fun _ => True) 14 14 #[false, false, false, false, false, false, false, false, false, false, false, false, false, false] (by kernel_rfl) (by kernel_rfl) (by kernel_rfl) ?_
              refine reg_take 0 113 13 #[true, false, false, false, false, false, false, false, false, false, false, false, false, false] (by rfl) (v := ?_) rfl rfl (by kernel_rfl) (by kernel_rfl) (by kernel_rfl) (by kernel_rfl) (fun _ _ _ h => h) (by rfl) ?_ (Till.mk' hS28 trivial) ?_
              rotate_left
              · rintro W ⟨hS0, hS1, hS2⟩; clear hS1 hS2; go_simp; all_goals with_reducible rfl
              try simp only [List.setIfInBounds_toArray, List.set_cons_succ, List.set_cons_zero]
              refine reg_take 1 114 12 #[true, true, false, false, false, false, false, false, false, false, false, false, false, false] (by rfl) (v := ?_) rfl rfl (by kernel_rfl) (by kernel_rfl) (by kernel_rfl) (by kernel_rfl) (fun _ _ _ h => h) (by rfl) ?_ (Till.mk' hS28 trivial) ?_
              rotate_left
              · rintro W ⟨hS0, hS1, hS2⟩; clear hS1 hS2; go_simp; all_goals with_reducible rfl
              try simp only [List.setIfInBounds_toArray, List.set_cons_succ, List.set_cons_zero]
              refine reg_skip 2 115 11 #[true, true, true, false, false, false, false, false, false, false, false, false, false, false] (by rfl) rfl rfl (by kernel_rfl) (by kernel_rfl) (by kernel_rfl) (by kernel_rfl) (fun _ _ _ h => h) (by rfl) (Till.mk' hS28 trivial) ?_
              try simp only [List.setIfInBounds_toArray, List.set_cons_succ, List.set_cons_zero]
              refine reg_skip 3 116 10 #[true, true, true, true, false, false, false, false, false, false, false, false, false, false] (by rfl) rfl rfl (by kernel_rfl) (by kernel_rfl) (by kernel_rfl) (by kernel_rfl) (fun _ _ _ h => h) (by rfl) (Till.mk' hS28 trivial) ?_
              try simp only [List.setIfInBounds_toArray, List.set_cons_succ, List.set_cons_zero]
              refine reg_skip 4 117 9 #[true, true, true, true, true, false, false, false, false, false, false, false, false, false] (by rfl) rfl rfl (by kernel_rfl) (by kernel_rfl) (by kernel_rfl) (by kernel_rfl) (fun _ _ _ h => h) (by rfl) (Till.mk' hS28 trivial) ?_
              try simp only [List.setIfInBounds_toArray, List.set_cons_succ, List.set_cons_zero]
              refine reg_skip 5 118 8 #[true, true, true, true, true, true, false, false, false, false, false, false, false, false] (by rfl) rfl rfl (by kernel_rfl) (by kernel_rfl) (by kernel_rfl) (by kernel_rfl) (fun _ _ _ h => h) (by rfl) (Till.mk' hS28 trivial) ?_
              try simp only [List.setIfInBounds_toArray, List.set_cons_succ, List.set_cons_zero]
              refine reg_skip 6 119 7 #[true, true, true, true, true, true, true, false, false, false, false, false, false, false] (by rfl) rfl rfl (by kernel_rfl) (by kernel_rfl) (by kernel_rfl) (by kernel_rfl) (fun _ _ _ h => h) (by rfl) (Till.mk' hS28 trivial) ?_
              try simp only [List.setIfInBounds_toArray, List.set_cons_succ, List.set_cons_zero]
              refine reg_skip 7 120 6 #[true, true, true, true, true, true, true, true, false, false, false, false, false, false] (by rfl) rfl rfl (by kernel_rfl) (by kernel_rfl) (by kernel_rfl) (by kernel_rfl) (fun _ _ _ h => h) (by rfl) (Till.mk' hS28 trivial) ?_
              try simp only [List.setIfInBounds_toArray, List.set_cons_succ, List.set_cons_zero]
              refine reg_skip 8 121 5 #[true, true, true, true, true, true, true, true, true, false, false, false, false, false] (by rfl) rfl rfl (by kernel_rfl) (by kernel_rfl) (by kernel_rfl) (by kernel_rfl) (fun _ _ _ h => h) (by rfl) (Till.mk' hS28 trivial) ?_
              try simp only [List.setIfInBounds_toArray, List.set_cons_succ, List.set_cons_zero]
              refine reg_skip 9 122 4 #[true, true, true, true, true, true, true, true, true, true, false, false, false, false] (by rfl) rfl rfl (by kernel_rfl) (by kernel_rfl) (by kernel_rfl) (by kernel_rfl) (fun _ _ _ h => h) (by rfl) (Till.mk' hS28 trivial) ?_
              try simp only [List.setIfInBounds_toArray, List.set_cons_succ, List.set_cons_zero]
              refine reg_skip 10 123 3 #[true, true, true, true, true, true, true, true, true, true, true, false, false, false] (by rfl) rfl rfl (by kernel_rfl) (by kernel_rfl) (by kernel_rfl) (by kernel_rfl) (fun _ _ _ h => h) (by rfl) (Till.mk' hS28 trivial) ?_
              try simp only [List.setIfInBounds_toArray, List.set_cons_succ, List.set_cons_zero]
              refine reg_skip 11 124 2 #[true, true, true, true, true, true, true, true, true, true, true, true, false, false] (by rfl) rfl rfl (by kernel_rfl) (by kernel_rfl) (by kernel_rfl) (by kernel_rfl) (fun _ _ _ h => h) (by rfl) (Till.mk' hS28 trivial) ?_
              try simp only [List.setIfInBounds_toArray, List.set_cons_succ, List.set_cons_zero]
              refine reg_take 12 125 1 #[true, true, true, true, true, true, true, true, true, true, true, true, true, false] (by rfl) (v := ?_) rfl rfl (by kernel_rfl) (by kernel_rfl) (by kernel_rfl) (by kernel_rfl) (fun _ _ _ h => h) (by rfl) ?_ (Till.mk' hS28 trivial) ?_
              rotate_left
              · rintro W ⟨hS0, hS1, hS2⟩; clear hS1 hS2; go_simp; all_goals with_reducible rfl
              try simp only [List.setIfInBounds_toArray, List.set_cons_succ, List.set_cons_zero]
              refine reg_take 13 18 0 #[true, true, true, true, true, true, true, true, true, true, true, true, true, true] (by rfl) (v := ?_) rfl rfl (by kernel_rfl) (by kernel_rfl) (by kernel_rfl) (by kernel_rfl) (fun _ _ _ h => h) (by rfl) ?_ (Till.mk' hS28 trivial) ?_
              rotate_left
              · rintro W ⟨hS0, hS1, hS2⟩; clear hS1 hS2; go_simp; all_goals with_reducible rfl
              try simp only [List.setIfInBounds_toArray, List.set_cons_succ, List.set_cons_zero]
              refine reg_done (by kernel_rfl) ?_ _
              go_wp2_with fail
              go_roundw
              case rel => exact ⟨j + 1, by omega, by go_num, (by rw [E1.out]; simp [strOf_toList]), (by rw [E2.out]; simp [strOf_toList]), hA', sm'⟩
              case measure => (simp [intOf] <;> omega)
        · obtain rfl : j = m := by omega
          have hsx := (sm.blk (List.mem_cons_of_mem _ (List.mem_cons_of_mem _ hxY)) hbx7).sl 0 64 64 1 (by rw [bvs_length]; omega) (Nat.le_refl _) (by simp [maxLen])
          rw [List.drop_zero, List.take_of_length_le (by rw [bvs_length]; omega)] at hsx
          have hspp := sl_same hsp7 sm (by simp)
          have hc1 := conv_str (P := Try.prog) (dst := 9) hspp Try.underlying22 Try.underlying5 Try.underlying9
          have hc2 := conv_str (P := Try.prog) (dst := 9) hsx Try.underlying22 Try.underlying5 Try.underlying9
          have bel := hA.bel
          rw [show (X :: rs).take j = X :: rs from List.take_of_length_le (by rw [← hm'.out]; omega), EF.out, ES.out]
          clear hA sm hR hsqr hspp hsx hR7 hsq hsp7 hbx7 END EF ES
          go_wp2_with fail
          go_ret
          exact ⟨rfl, bel⟩
end Go.Proofs.Ytemhlnjnbccpgaa
