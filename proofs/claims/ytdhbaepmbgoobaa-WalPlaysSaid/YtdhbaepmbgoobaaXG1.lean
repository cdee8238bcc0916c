/- From the row's reading of an argument to the walk's: any slice, by its elements' cells. The document's disk: Crash. An act, at both: Stop, Crash, Tamper. An act at both: Do, where it stops, crashes, tampers. Acts that came in; Few. -/
import Derived.Test.YtdhbaepmbgoobaaArgs
import Derived.SliceStrings
import Derived.Test.YtdhbaepmbgoobaaXG0
import Derived.Deep.WholeRow
import Derived.Test.YtdhbaepmbgoobaaWithinL
import Derived.Test.YtdhbaepmbgoobaaArgI
import Derived.WideShapes
namespace Go.Proofs.Ytdhbaepmbgoobaa
open Go.RowKit
set_option linter.unusedVariables false
set_option maxRecDepth 10000
set_option linter.unusedSimpArgs false
set_option linter.unnecessarySimpa false

theorem mapM_cells {w : World} {b off : Nat} : ∀ (n k : Nat) (cs : List Value), ((List.range' k n).mapM fun i => w.cell? ⟨b, off + i, none⟩) = some cs → cs.length = n ∧ ∀ j u, cs[j]? = some u → w.cell? ⟨b, off + (k + j), none⟩ = some u
  | 0, k, cs, h => by
    simp at h
    subst h
    exact ⟨rfl, fun j u hu => by simp at hu⟩
  | n + 1, k, cs, h => by
    rw [List.range'_succ, List.mapM_cons] at h
    cases hc : w.cell? ⟨b, off + k, none⟩ with
    | none => rw [hc] at h; simp at h
    | some c =>
      rw [hc] at h
      cases hr : ((List.range' (k + 1) n).mapM fun i => w.cell? ⟨b, off + i, none⟩) with
      | none => rw [hr] at h; simp at h
      | some cs' =>
        rw [hr] at h
        simp at h
        subst h
        obtain ⟨h1, h2⟩ := mapM_cells n (k + 1) cs' hr
        refine ⟨by simp [h1], fun j u hu => ?_⟩
        cases j with
        | zero => simp at hu; subst hu; exact hc
        | succ j =>
          simp at hu
          have := h2 j u hu
          rwa [show k + 1 + j = k + (j + 1) by omega] at this
theorem cells_lit {w : World} {base b off n : Nat} {cs : List Value} (h : w.cells? base ⟨b, off, none⟩ n = some cs) : cs.length = n ∧ ∀ j u, cs[j]? = some u → w.cell? ⟨b, off + j, none⟩ = some u := by
  unfold World.cells? at h
  split at h
  · have e : (fun i => w.cell? ((⟨b, off, none⟩ : Addr).add i)) = fun i => w.cell? ⟨b, off + i, none⟩ := by
      funext i; rw [Addr.add_lit]
    rw [e, List.range_eq_range'] at h
    obtain ⟨h1, h2⟩ := mapM_cells n 0 cs h
    exact ⟨h1, fun j u hu => by have := h2 j u hu; rwa [Nat.zero_add] at this⟩
  · cases h
theorem flatten_at (size : Nat) : ∀ (css : List (List Value)) (k j : Nat), (∀ cs ∈ css, cs.length = size) → j < size → k < css.length → css.flatten[k * size + j]? = (css.getD k [])[j]?
  | [], k, j, _, _, hk => by simp at hk
  | c :: css, 0, j, hl, hj, _ => by
    have := hl c (by simp)
    rw [Nat.zero_mul, Nat.zero_add, List.flatten_cons, List.getElem?_append_left (by omega)]; rfl
  | c :: css, k + 1, j, hl, hj, hk => by
    have := hl c (by simp)
    rw [List.flatten_cons, List.getElem?_append_right (by rw [this, Nat.succ_mul]; omega), this, Nat.succ_mul, show k * size + size + j - size = k * size + j by omega]
    exact flatten_at size css k j (fun cs h => hl cs (by simp [h])) hj (by simpa using hk)
theorem flatten_len (size : Nat) (css : List (List Value)) (h : ∀ cs ∈ css, cs.length = size) : css.flatten.length = css.length * size := by
  induction css with
  | nil => simp
  | cons c css ih => rw [List.flatten_cons, List.length_append, ih (fun cs hc => h cs (by simp [hc])), h c (by simp), List.length_cons, Nat.succ_mul]; omega

section
variable {H : Type} {enc : TypeId × Value → H} {P : Program} {w : World} {held : Bool}
/-- A slice that came in: its elements' cells, each of which reads. -/
theorem slice_of_trod {t e : TypeId} {size fuel : Nat} {cs : List Value} {x : DataW H × List MemPlace} (ht : P.underlying t = some (.slice e)) (hc : P.cellsOf e = size) (hsz : 0 < size)
    (h : DataW.trod enc P w 0 (fun _ => true) held fuel t cs = some x) :
    ∃ A n c, ∃ css : List (List Value), cs = [.slice A n c] ∧ css.length = n ∧ (∀ k, k < n → ∃ fu y, (css.getD k []).length = size ∧ DataW.trod enc P w 0 (fun _ => true) held fu e (css.getD k []) = some y) ∧ Sl w w.heap.size size (.slice A n c) n css.flatten := by
  rcases DataW.trod_slice ht h with ⟨rfl, _⟩ | ⟨⟨b, off, spot⟩, len, cap, elems, rest, n, _, rfl, _, _, hl, hm, hlen, hel, _, _⟩
  · exact ⟨none, 0, 0, [], rfl, rfl, fun k hk => by omega, by simpa using Sl.nil⟩
  · subst hc
    have key : ∀ i, i < len → ∃ cs y, w.cells? 0 ((⟨b, off, spot⟩ : Addr).add (i * P.cellsOf e)) (P.cellsOf e) = some cs ∧ DataW.trod enc P w 0 (fun _ => true) held n e cs = some y := by
      intro i hi
      have h1 := hel i hi
      rw [List.getElem?_eq_getElem (by omega), Option.bind_eq_some_iff] at h1
      obtain ⟨cs, h2, h3⟩ := h1
      exact ⟨cs, _, h2, h3⟩
    by_cases h0 : len = 0
    · subst h0
      exact ⟨_, 0, cap, [], rfl, rfl, fun k hk => by omega, ⟨by simp, _, _, rfl, hl, hm, (fun h => by cases h), fun hn => absurd rfl hn⟩⟩
    · have hs : spot = none := by
        obtain ⟨cs, y, h2, _⟩ := key 0 (by omega)
        unfold World.cells? at h2
        split at h2
        · obtain ⟨m, hm'⟩ : ∃ m, P.cellsOf e = m + 1 := ⟨P.cellsOf e - 1, by omega⟩
          rw [hm', List.range_succ_eq_map, List.mapM_cons] at h2
          cases hc0 : w.cell? (((⟨b, off, spot⟩ : Addr).add (0 * (m + 1))).add 0) with
          | none => rw [hc0] at h2; simp at h2
          | some c =>
            rw [Nat.zero_mul] at hc0
            simpa [Addr.add] using World.cell?_spot hc0
        · cases h2
      subst hs
      obtain ⟨f, hf⟩ : ∃ f : Nat → List Value, ∀ i, i < len → ∃ y, w.cells? 0 ((⟨b, off, none⟩ : Addr).add (i * P.cellsOf e)) (P.cellsOf e) = some (f i) ∧ DataW.trod enc P w 0 (fun _ => true) held n e (f i) = some y :=
        ⟨fun i => if hi : i < len then (key i hi).choose else [], fun i hi => by
          simp only [hi, dif_pos]
          exact (key i hi).choose_spec⟩
      have hfl : ∀ i, i < len → (f i).length = P.cellsOf e ∧ ∀ j u, (f i)[j]? = some u → w.cell? ⟨b, off + i * P.cellsOf e + j, none⟩ = some u := by
        intro i hi
        obtain ⟨y, h1, _⟩ := hf i hi
        rw [Addr.add_lit] at h1
        exact cells_lit h1
      have hgd : ∀ k, k < len → ((List.range len).map f).getD k [] = f k := fun k hk => by simp [List.getD, hk]
      have hall : ∀ cs ∈ (List.range len).map f, cs.length = P.cellsOf e := by
        intro cs hcs
        simp only [List.mem_map, List.mem_range] at hcs
        obtain ⟨i, hi, rfl⟩ := hcs
        exact (hfl i hi).1
      have hfl2 := flatten_len (P.cellsOf e) _ hall
      simp only [List.length_map, List.length_range] at hfl2
      refine ⟨_, len, cap, (List.range len).map f, rfl, by simp, fun k hk => ?_, ⟨hfl2, _, _, rfl, hl, hm, (fun h => by cases h), fun _ => ⟨b, off, rfl, ?_, fun j u hu => ?_⟩⟩⟩
      · rw [hgd k hk]
        obtain ⟨y, _, h3⟩ := hf k hk
        exact ⟨n, y, (hfl k hk).1, h3⟩
      · obtain ⟨h1, h2⟩ := hfl 0 (by omega)
        exact World.block_lt_of_cell? w _ (h2 0 _ (List.getElem?_eq_getElem (by omega)))
      · have hj : j < len * P.cellsOf e := by
          have := (List.getElem?_eq_some_iff.1 hu).1
          omega
        have hq : j / P.cellsOf e < len := by rw [Nat.div_lt_iff_lt_mul hsz]; exact hj
        have hr : j % P.cellsOf e < P.cellsOf e := Nat.mod_lt _ hsz
        have e1 : j = j / P.cellsOf e * P.cellsOf e + j % P.cellsOf e := by rw [Nat.mul_comm]; exact (Nat.div_add_mod j (P.cellsOf e)).symm
        rw [e1, flatten_at (P.cellsOf e) _ _ _ hall hr (by simpa using hq), hgd _ hq] at hu
        have := (hfl _ hq).2 _ u hu
        rw [Nat.add_assoc, ← e1] at this
        exact this
/-- Where every element's cells are those of some datum: the data. -/
theorem choose_all {α : Type} {n : Nat} {css : List (List Value)} (cells : α → List Value) (good : α → Prop) (hn : css.length = n) (h : ∀ k, k < n → ∃ a, css.getD k [] = cells a ∧ good a) :
    ∃ l : List α, l.length = n ∧ css = l.map cells ∧ ∀ a ∈ l, good a := by
  subst hn
  induction css with
  | nil => exact ⟨[], rfl, rfl, by simp⟩
  | cons c css ih =>
    obtain ⟨a, ha, ga⟩ := h 0 (by simp)
    obtain ⟨l, hl, e, g⟩ := ih (fun k hk => by have := h (k + 1) (by simp; omega); simpa using this)
    refine ⟨a :: l, by simp [hl], ?_, fun b hb => ?_⟩
    · have : c = cells a := by simpa using ha
      rw [this, e]; rfl
    · simp at hb
      rcases hb with rfl | hb
      · exact ga
      · exact g b hb
end
end Go.Proofs.Ytdhbaepmbgoobaa
namespace Go.Proofs.Ytdhbaepmbgoobaa
open Go.RowKit
set_option linter.unusedVariables false
set_option linter.unusedSimpArgs false
set_option linter.unnecessarySimpa false

/-- Does this byte of a Write stay? -/
def bit1 (kk : Int) (j : Nat) : Bool := if j < 32 then decide (kk = 1 ∨ kk = 3) else decide (kk = 2 ∨ kk = 3)
def lay (kk : Int) (s : List UInt8) (n : Nat) (pg : List UInt8) : Nat → List UInt8
  | 0 => s
  | j + 1 => if bit1 kk j = true then (lay kk s n pg j).set (n * 64 + j) (pg.getD j 0) else lay kk s n pg j
theorem lay_length (kk : Int) (s : List UInt8) (n : Nat) (pg : List UInt8) : ∀ j, (lay kk s n pg j).length = s.length
  | 0 => rfl
  | j + 1 => by
    rw [lay]
    split
    · rw [List.length_set]; exact lay_length kk s n pg j
    · exact lay_length kk s n pg j
theorem lay_low (kk : Int) (s : List UInt8) (n : Nat) (pg : List UInt8) (hpg : pg.length = 64) (hn : n * 64 + 64 ≤ s.length) : ∀ j, j ≤ 32 → lay kk s n pg j = if kk = 1 ∨ kk = 3 then spl s (n * 64) (pg.take j) else s
  | 0, _ => by
    rw [lay]
    split
    · rfl
    · rfl
  | j + 1, hj => by
    rw [lay, lay_low kk s n pg hpg hn j (by omega)]
    unfold bit1
    rw [if_pos (show j < 32 by omega)]
    by_cases h : kk = 1 ∨ kk = 3
    · rw [if_pos (decide_eq_true h), if_pos h, if_pos h, List.getD_eq_getElem?_getD, List.getElem?_eq_getElem (by omega), Option.getD_some]
      exact spl_snoc s pg (n * 64) j (by omega) (by omega)
    · rw [if_neg (by rw [decide_eq_false h]; decide), if_neg h, if_neg h]
theorem lay_high (kk : Int) (s : List UInt8) (n : Nat) (pg : List UInt8) (hpg : pg.length = 64) (hn : n * 64 + 64 ≤ s.length) : ∀ j, j ≤ 32 → lay kk s n pg (32 + j) = if kk = 2 ∨ kk = 3 then spl (half1 kk s (n, pg)) (n * 64 + 32) ((pg.drop 32).take j) else half1 kk s (n, pg)
  | 0, _ => by
    have h0 := lay_low kk s n pg hpg hn 32 (Nat.le_refl _)
    rw [Nat.add_zero, h0]
    unfold half1
    split <;> split <;> rfl
  | j + 1, hj => by
    have hl : (half1 kk s (n, pg)).length = s.length := half1_length _ _ _
    have hd : (pg.drop 32).length = 32 := by rw [List.length_drop]; omega
    rw [← Nat.add_assoc, lay, lay_high kk s n pg hpg hn j (by omega)]
    unfold bit1
    rw [if_neg (show ¬ 32 + j < 32 by omega)]
    by_cases h : kk = 2 ∨ kk = 3
    · rw [if_pos (decide_eq_true h), if_pos h, if_pos h]
      have e : pg.getD (32 + j) 0 = (pg.drop 32)[j]'(by omega) := by
        rw [List.getD_eq_getElem?_getD, List.getElem_drop, List.getElem?_eq_getElem (by omega), Option.getD_some]
      rw [e, ← Nat.add_assoc]
      exact spl_snoc _ (pg.drop 32) (n * 64 + 32) j (by omega) (by omega)
    · rw [if_neg (by rw [decide_eq_false h]; decide), if_neg h, if_neg h]
theorem lay_all (kk : Int) (s : List UInt8) (n : Nat) (pg : List UInt8) (hpg : pg.length = 64) (hn : n * 64 + 64 ≤ s.length) : lay kk s n pg 64 = crash1 kk s (n, pg) := by
  rw [show (64 : Nat) = 32 + 32 from rfl, lay_high kk s n pg hpg hn 32 (Nat.le_refl _)]
  unfold crash1 half2
  rw [List.take_of_length_le (by rw [List.length_drop]; omega)]
theorem crashS_len (l : List Int) : ∀ (ws : List (Nat × List UInt8)) (i : Nat) (s : List UInt8), (crashS l i ws s).length = s.length
  | [], i, s => rfl
  | x :: ws, i, s => by
    rw [crashS, crashS_len l ws]
    unfold crash1
    rw [half2_length, half1_length]
/-- The pages as they are, of their own, new. -/
theorem RIs.nowTo {w w' : World} {B : Nat} {D : RL} {p k ck : Nat} {st : DS} (h : RIs w B D p st) (t : Turns [] w w') (hk : w.heap.size ≤ k) (hb : ∃ tl, Blk w' k (bvs st.synced ++ tl) 98) (hc : p ≤ ck ∧ ck ≤ 9223372036854775807) :
    RDid w B D p ⟨st.left, st.dead, st.synced, st.synced, st.writes⟩ (w'.setCell ⟨D.g, 0, none⟩ (.slice (some ⟨k, 0, none⟩) p ck)) ⟨D.g, k, D.k, ck, D.ck, D.v⟩ := by
  have h' := h.turns t (by simp)
  have l1 := h.head.lt
  have hg : D.g ≠ k := by omega
  obtain ⟨tn, hn⟩ := h.syn
  obtain ⟨tn', hn'⟩ := h'.syn
  have hnk : k ≠ D.k := by have := hn.lt; omega
  obtain ⟨tl, hb⟩ := hb
  refine ⟨⟨?_, ⟨tl, hb.other (p := ⟨D.g, 0, none⟩) hg _⟩, ⟨tn', hn'.other (p := ⟨D.g, 0, none⟩) h.ap1.2.1 _⟩, RIs.own_other h'.own h.ap2.1 _ _, h.lenS, h.lenS, h.left0, h.pages, ⟨hc.1, hc.2, h.caps.2.2.1, h.caps.2.2.2⟩, ⟨hg, h.ap1.2.1, hnk⟩, ⟨h.ap2.1, fun e => ?_, h.ap2.2.2⟩, ⟨h.low.1, ?_, h.low.2.2⟩⟩, rfl, (t.mono (by simp)).setCell (p := ⟨D.g, 0, none⟩) (.inl (by simp [RL.all])) _, fun x hx => ?_⟩
  · have := h'.head.set 0 (.slice (some ⟨k, 0, none⟩) p ck)
    exact this
  · have := (h.own.lt k e).2; omega
  · show B ≤ k
    have := h.low.1; omega
  · simp only [RL.all, List.mem_cons] at hx ⊢
    rcases hx with hx | hx | hx | hx
    · exact .inl (.inl hx)
    · exact .inr (by omega)
    · exact .inl (.inr (.inr (.inl hx)))
    · exact .inl (.inr (.inr (.inr hx)))
/-- So many Writes are done. -/
def CwR (w : World) (B : Nat) (D D1 : RL) (p : Nat) (st : DS) (l : List Int) (i : Value) (wr : World) : Prop := ∃ k : Nat, k ≤ st.writes.length ∧ i = .int .i64 k ∧ RDid w B D p ⟨st.left, st.dead, st.synced, crashS l 0 (st.writes.take k) st.synced, st.writes⟩ wr D1
/-- So many bytes of one are done. -/
def CbR (w : World) (B : Nat) (D D1 : RL) (p q n : Nat) (st : DS) (kk : Int) (s pg : List UInt8) (i : Value) (wr : World) : Prop := ∃ j : Nat, j ≤ 64 ∧ i = .int .i64 j ∧ RDid w B D p ⟨st.left, st.dead, st.synced, lay kk s n pg j, st.writes⟩ wr D1 ∧ Blk wr q (.int .i64 n :: bvs pg) 103

set_option maxRecDepth 100000 in
set_option maxHeartbeats 8000000 in
theorem RCrash_any (w : World) (B : Nat) (D : RL) (p : Nat) (st : DS) (A : Option Addr) (c : Nat) (l : List Int) (h : RIs w B D p st) (hf : st.fine p) (hwl : st.writes.length ≤ 1000000)
    (hs : Sl w w.heap.size 1 (.slice A l.length c) l.length (l.map (Value.int .i64))) (hi : ∀ z ∈ l, -9223372036854775808 ≤ z ∧ z ≤ 9223372036854775807) (hA : l ≠ [] → ∀ y, (Value.slice A l.length c).ownBlock = some y → y ∉ D.all) :
    Calls Try.prog 53 #[.pointer (some ⟨D.g, 0, none⟩), .slice A l.length c] w fun e w' => e = .returned (.tuple #[]) ∧ ∃ D', RDid w B D p (st.crash l) w' D' := by
  have hp := h.pages
  have c1 := h.head.cell 1
  simp only [RL.head, List.getElem?_cons_zero, List.getElem?_cons_succ] at c1
  obtain ⟨tl, hsy⟩ := h.syn
  have hsl := hsy.sl 0 p D.ck 64 (by rw [List.length_append, bvs_length, h.lenS]; omega) h.caps.2.2.1 (by simp only [maxLen]; exact h.caps.2.2.2)
  rw [List.drop_zero, List.take_left' (by rw [bvs_length, h.lenS])] at hsl
  obtain ⟨k1, ck1, w2, hr2, hb2, hk2, hc2, t2⟩ := run_fresh_pages w hsl (Nat.le_refl _) hp 93
  have R1 := h.nowTo t2 hk2 hb2 hc2
  have c0' := (h.turns t2 (by simp)).head.cell 0
  have f0' := (h.turns t2 (by simp)).head.free 0
  simp only [RL.head, List.getElem?_cons_zero] at c0'
  have c1a := cellW ((Turns.refl [] w).alloc (.cells #[] 98)) c1
  have hl8 : l.length ≤ 9223372036854775807 := by
    obtain ⟨_, _, _, ee, h1, h2, _⟩ := hs
    injection ee with _ _ e3
    subst e3
    unfold maxLen at h2
    omega
  obtain ⟨D1, hD1⟩ : ∃ D1 : RL, D1 = ⟨D.g, k1, D.k, ck1, D.ck, D.v⟩ := ⟨_, rfl⟩
  rw [← hD1] at R1
  obtain ⟨W1, hW1⟩ : ∃ W1, W1 = w2.setCell ⟨D.g, 0, none⟩ (.slice (some ⟨k1, 0, none⟩) p ck1) := ⟨_, rfl⟩
  rw [← hW1] at R1
  have hg1 : D1.g = D.g := by rw [hD1]
  have HW := Lib.hid hW1
  have HR1 := Lib.hid R1
  have H0 := Lib.hid (And.intro h (And.intro hf (And.intro hs (And.intro hi hA))))
  obtain ⟨Av, cv, hDv⟩ := own_form R1.is.own
  have HDV := Lib.hid hDv
  clear h hf hs hi hA hsl hsy hb2 hk2 hc2 t2 R1 hW1 hD1 hDv
  go_enter Try.func53, Try.ntmps53
  go_wp2_with (at_builtin; refine wpList_append_at rfl (.tmp 9) (.tmp 13) rfl hr2 rfl rfl ?_)
  clear hr2 c0' f0' c1a c1
  rw [← HW.out]
  go_loopw [4] (fun i wr => CwR w B D D1 p st l i wr) (fun i _ => st.writes.length - (intOf i).toNat)
  case atStart => exact ⟨0, by omega, rfl, by rw [List.take_zero]; exact HR1.out⟩
  case round =>
    obtain ⟨k, hk, rfl, rd⟩ := hrel
    obtain ⟨Y, hY⟩ : ∃ Y, Y = wr := ⟨_, rfl⟩
    subst hY
    have c2 := rd.is.head.cell 2
    simp only [RL.head, List.getElem?_cons_zero, List.getElem?_cons_succ] at c2
    rw [HDV.out, hg1] at c2
    by_cases hlt : k < st.writes.length
    · have hltI : (k : Int) < st.writes.length := by omega
      have hx := H0.out.2.1 _ (List.getElem_mem hlt)
      have hrow : ∀ j v, (Value.int .i64 st.writes[k].1 :: bvs st.writes[k].2)[j]? = some v → (flatW st.writes)[k * 65 + j]? = some v := flatW_get st.writes k hlt (fun x hx => (H0.out.2.1 x hx).2)
      obtain ⟨n, hn⟩ : ∃ n, n = st.writes[k].1 := ⟨_, rfl⟩
      obtain ⟨pg, hpg⟩ : ∃ pg, pg = st.writes[k].2 := ⟨_, rfl⟩
      rw [← hn, ← hpg] at hrow hx
      obtain ⟨gv, hgv⟩ : ∃ gv, Av = some ⟨gv, 0, none⟩ := by
        rcases rd.is.own.2 with ⟨_, h0⟩ | ⟨g, cap, cur, hv, _⟩
        · exact absurd h0 (by show ¬ st.writes.length = 0; omega)
        · rw [HDV.out] at hv; injection hv with e1 _ _; exact ⟨g, e1⟩
      subst hgv
      have hrange : Y.rangeAt gv (k * 65) (Value.int .i64 n :: bvs pg) := by
        intro j v hj
        have := rd.is.own.cells (g := gv) (by rw [HDV.out]; rfl) (k * 65 + j) v (hrow j v hj)
        rwa [Addr.add_mid, Nat.zero_add] at this
      have h65 : (Value.int .i64 n :: bvs pg).length = 65 := by rw [List.length_cons, bvs_length, hx.2]
      have hon : ∀ u ∈ (Value.int .i64 n :: bvs pg), u.oneCell' = true := by intro u hu; simp only [List.mem_cons] at hu; rcases hu with rfl | hu; rfl; exact bvs_one _ u hu
      obtain ⟨cs, hcs⟩ : ∃ cs, cs = Value.int .i64 n :: bvs pg := ⟨_, rfl⟩
      rw [← hcs] at h65 hon hrange
      have hszw : (Try.prog.info? 103).map (·.size) = some cs.length := by rw [h65]; kernel_rfl
      obtain ⟨Z, hZs, hz⟩ : ∃ Z : Array Value, Z.size = 65 ∧ ∀ w, (zeroValue 103).run Try.prog w = .ok (.agg Z) w :=
        ⟨#[.int .i64 0] ++ Array.replicate 64 (.int .u8 0), by simp, (zero_of_info (P := Try.prog) (n := 65) (by kernel_rfl)).1⟩
      have hZ0 : ¬ Z = #[] := by intro e; rw [e] at hZs; simp at hZs
      obtain ⟨W3, hst, hB3, t3⟩ := store_var (P := Try.prog) Y Z 103 cs (by rw [h65, hZs]) hon
      rw [hcs] at hB3
      have hqD : Y.heap.size ∉ D1.all := by intro hm; have := rd.is.lt _ hm; omega
      have hqw : w.heap.size ≤ Y.heap.size := rd.turns.size
      obtain ⟨q, hq⟩ : ∃ q, q = Y.heap.size := ⟨_, rfl⟩
      rw [← hq] at hB3 hqD hqw
      obtain ⟨s0, hs0⟩ : ∃ s0, s0 = crashS l 0 (st.writes.take k) st.synced := ⟨_, rfl⟩
      rw [← hs0] at rd
      have rdt : Turns D.all w Y := rd.turns
      have r3 : RDid w B D p ⟨st.left, st.dead, st.synced, s0, st.writes⟩ W3 D1 := ⟨rd.is.turns t3 (by simp), rd.same, rd.turns.trans t3 (by simp), rd.fresh⟩
      have HN := Lib.hid (And.intro hn (And.intro hpg (And.intro hx hs0)))
      have H3 := Lib.hid (And.intro r3 (And.intro hB3 (And.intro hqD hqw)))
      have HQ := Lib.hid hq
      have HYT := Lib.hid rdt
      clear hn hpg hrow hx rd hB3 t3 hcs hon hqD hqw hs0 r3 hq rdt
      by_cases hil : k < l.length
      · have hilI : (k : Int) < l.length := by omega
        obtain ⟨_, _, _, ee, _, _, _, hrd⟩ := H0.out.2.2.1
        injection ee with e1 _ e3
        subst e1 e3
        obtain ⟨b5, o5, e5, hb5, hc5⟩ := hrd.at_ (k := k) (by simpa using hil)
        subst e5
        rw [List.getElem_map] at hc5
        have hbD := H0.out.2.2.2.2 (by intro e; rw [e] at hil; simp at hil) b5 rfl
        have hzb := H0.out.2.2.2.1 _ (List.getElem_mem hil)
        have hpk : pick4 l k = l[k] % 4 := by unfold pick4; rw [List.getD_eq_getElem?_getD, List.getElem?_eq_getElem hil]; rfl
        obtain ⟨z, hz9⟩ : ∃ z, z = l[k] := ⟨_, rfl⟩
        rw [← hz9] at hc5 hzb hpk
        have hc6 := cellW HYT.out hc5 hbD
        obtain ⟨hz', hz1, hz2⟩ := tmod4 z
        have wz : IntKind.i64.wrap (z.tmod 4 + 4) = z.tmod 4 + 4 := by rw [IntKind.wrap_i64]; omega
        obtain ⟨kk, hkk⟩ : ∃ kk, kk = z % 4 := ⟨_, rfl⟩
        have h4 : kk = 0 ∨ kk = 1 ∨ kk = 2 ∨ kk = 3 := by omega
        rw [← hkk] at hz' hpk
        have HZ := Lib.hid (show (z.tmod 4 + 4) % 4 = kk by rw [← Int.tmod_eq_emod_of_nonneg (by omega)]; exact hz')
        have HPK := Lib.hid hpk
        clear hrd hz9 hkk hpk hc5 hb5 hz'
        go_upto_region 7 with fail
        rw [HZ.out]
        clear hc6 hzb hz1 hz2 wz
        rcases h4 with h4 | h4 | h4 | h4
        all_goals
          have HKK := Lib.hid h4
          rw [h4]
          clear h4
          go_wp2_with (first
            | (refine wpList_load_mid rfl 103 (.tmp 42) rfl gv (k * 65) rfl _ _ hrange Try.underlying103 rfl hszw ?_)
            | fail)
          rw [← HQ.out]
          go_loopw [7] (fun i wr => CbR w B D D1 p q n st kk s0 pg i wr) (fun i _ => 64 - (intOf i).toNat)
          case atStart => exact ⟨0, by omega, rfl, H3.out.1, H3.out.2.1⟩
          case round =>
            obtain ⟨j, hj, rfl, rj, bq⟩ := hrel
            obtain ⟨V, hV⟩ : ∃ V, V = wr := ⟨_, rfl⟩
            subst hV
            by_cases hj8 : j < 64
            · skip
              have hjI : (j : Int) < 64 := by omega
              obtain ⟨Yd, hYd⟩ : ∃ Yd, Yd = V.drew := ⟨_, rfl⟩
              have r0 := rj.drew
              rw [← hYd] at r0
              have hb0 : Blk Yd q (.int .i64 n :: bvs pg) 103 := by rw [hYd]; exact bq.drew
              have hqj : n * 64 + j < p * 64 := by have := HN.out.2.2.1.1; omega
              obtain ⟨x, hx⟩ : ∃ x, x = pg.getD j 0 := ⟨_, rfl⟩
              have hxe : (bvs pg)[j]? = some (u8v x) := by
                have hl := HN.out.2.2.1.2
                have e : pg[j]? = some x := by rw [hx, List.getD_eq_getElem?_getD, List.getElem?_eq_getElem (by omega)]; rfl
                unfold bvs
                rw [List.getElem?_map, e]; rfl
              have S1 := r0.trans (r0.is.setNow hqj x)
              obtain ⟨W9, hW9⟩ : ∃ W9, W9 = Yd.setCell ⟨D1.n, n * 64 + j, none⟩ (u8v x) := ⟨_, rfl⟩
              rw [← hW9] at S1
              have hqn : D1.n ≠ q := fun e => H3.out.2.2.1 (by simp [RL.all, e])
              have hb1 : Blk W9 q (.int .i64 n :: bvs pg) 103 := by rw [hW9]; exact hb0.other (p := ⟨D1.n, n * 64 + j, none⟩) hqn _
              have cf : ∀ (W : World) (s : DS), RDid w B D p s W D1 → Blk W q (.int .i64 n :: bvs pg) 103 → (W.cell? ⟨D.g, 0, none⟩ = some (.slice (some ⟨D1.n, 0, none⟩) p D1.cn) ∧ W.cell? ⟨q, 0, none⟩ = some (.int .i64 n)) ∧ W.cell? ⟨q, 1 + j, none⟩ = some (.int .u8 (x.toNat : Int)) := fun W s r b => ⟨⟨by have := r.is.head.cell 0; rw [hg1] at this; simpa only [RL.head, List.getElem?_cons_zero] using this, b.cell 0⟩, by have := b.cell (1 + j); rw [Nat.add_comm 1 j, List.getElem?_cons_succ, hxe] at this; rw [Nat.add_comm 1 j]; exact this⟩
              have g0 := cf Yd _ r0 hb0
              have g1 := cf W9 _ S1 hb1
              obtain ⟨u6, q6, f6⟩ : ∃ u, Yd.cell? ⟨D1.n, n * 64 + j, none⟩ = some u ∧ Yd.frozen? ⟨D1.n, n * 64 + j, none⟩ = false := by
                obtain ⟨tn, hnw⟩ := r0.is.now
                exact ⟨_, (hnw.cell (n * 64 + j)).trans (List.getElem?_eq_getElem (by rw [List.length_append, bvs_length, r0.is.lenN]; omega)), hnw.free _⟩
              have HFT := Lib.hid (And.intro (show bit1 kk j = true → RDid w B D p ⟨st.left, st.dead, st.synced, lay kk s0 n pg (j + 1), st.writes⟩ W9 D1 from fun hb => by rw [lay, if_pos hb, ← hx]; exact S1) hb1)
              have HFF := Lib.hid (And.intro (show bit1 kk j = false → RDid w B D p ⟨st.left, st.dead, st.synced, lay kk s0 n pg (j + 1), st.writes⟩ V D1 from fun hb => by rw [lay, if_neg (by rw [hb]; decide)]; exact rj) bq)
              unfold u8v at hW9
              have HYd := Lib.hid hYd
              have HW1 := Lib.hid hW9
              have hnp : n < p := HN.out.2.2.1.1
              have hnpI : (n : Int) < p := by omega
              clear hYd hW9 r0 S1 hb0 hb1 hxe hx rj bq cf hqj hqn
              by_cases h32 : j < 32
              · have hjd : (j : Int) / 32 = 0 := by omega
                first
                  | (have hb : bit1 kk j = false := (by rw [HKK.out]; unfold bit1; rw [if_pos h32]; decide)
                     have HBB := Lib.hid hb
                     clear hb
                     go_upto_region 11 with fail
                     go_wp2_with fail
                     go_roundw
                     case rel => exact ⟨j + 1, by omega, by go_num, HFF.out.1 HBB.out, HFF.out.2⟩
                     case measure => (simp [intOf] <;> omega))
                  | (have hb : bit1 kk j = true := (by rw [HKK.out]; unfold bit1; rw [if_pos h32]; decide)
                     have HBB := Lib.hid hb
                     clear hb
                     go_upto_region 12 with fail
                     refine reg_begin (fun W => (W.cell? ⟨D.g, 0, none⟩ = some (.slice (some ⟨D1.n, 0, none⟩) p D1.cn) ∧ W.cell? ⟨q, 0, none⟩ = some (.int .i64 n)) ∧ W.cell? ⟨q, 1 + j, none⟩ = some (.int .u8 (x.toNat : Int))) (fun _ => True) 14 14 #[false, false, false, false, false, false, false, false, false, false, false, false, false, false] (by kernel_rfl) (by kernel_rfl) (by kernel_rfl) ?_
                     rw [← HYd.out]
                     refine reg_take 0 55 13 #[true, false, false, false, false, false, false, false, false, false, false, false, false, false] (by rfl) (v := ?_) rfl rfl (by kernel_rfl) (by kernel_rfl) (by kernel_rfl) (by kernel_rfl) (fun _ _ _ h => h) (by rfl) ?_ (Till.mk' g0 trivial) ?_
                     rotate_left
                     · rintro W ⟨⟨hS1, hS2⟩, hS3⟩; go_simp; all_goals with_reducible rfl
                     try simp only [List.setIfInBounds_toArray, List.set_cons_succ, List.set_cons_zero]
                     refine reg_take 1 56 12 #[true, true, false, false, false, false, false, false, false, false, false, false, false, false] (by rfl) (v := ?_) rfl rfl (by kernel_rfl) (by kernel_rfl) (by kernel_rfl) (by kernel_rfl) (fun _ _ _ h => h) (by rfl) ?_ (Till.mk' g0 trivial) ?_
                     rotate_left
                     · rintro W ⟨⟨hS1, hS2⟩, hS3⟩; go_simp; all_goals with_reducible rfl
                     try simp only [List.setIfInBounds_toArray, List.set_cons_succ, List.set_cons_zero]
                     refine reg_take 2 57 11 #[true, true, true, false, false, false, false, false, false, false, false, false, false, false] (by rfl) (v := ?_) rfl rfl (by kernel_rfl) (by kernel_rfl) (by kernel_rfl) (by kernel_rfl) (fun _ _ _ h => h) (by rfl) ?_ (Till.mk' g0 trivial) ?_
                     rotate_left
                     · rintro W ⟨⟨hS1, hS2⟩, hS3⟩; go_simp; all_goals with_reducible rfl
                     try simp only [List.setIfInBounds_toArray, List.set_cons_succ, List.set_cons_zero]
                     refine reg_take 3 58 10 #[true, true, true, true, false, false, false, false, false, false, false, false, false, false] (by rfl) (v := ?_) rfl rfl (by kernel_rfl) (by kernel_rfl) (by kernel_rfl) (by kernel_rfl) (fun _ _ _ h => h) (by rfl) ?_ (Till.mk' g0 trivial) ?_
                     rotate_left
                     · rintro W ⟨⟨hS1, hS2⟩, hS3⟩; go_simp; all_goals with_reducible rfl
                     try simp only [List.setIfInBounds_toArray, List.set_cons_succ, List.set_cons_zero]
                     refine reg_take 4 59 9 #[true, true, true, true, true, false, false, false, false, false, false, false, false, false] (by rfl) (v := ?_) rfl rfl (by kernel_rfl) (by kernel_rfl) (by kernel_rfl) (by kernel_rfl) (fun _ _ _ h => h) (by rfl) ?_ (Till.mk' g0 trivial) ?_
                     rotate_left
                     · rintro W ⟨⟨hS1, hS2⟩, hS3⟩; go_simp; all_goals with_reducible rfl
                     try simp only [List.setIfInBounds_toArray, List.set_cons_succ, List.set_cons_zero]
                     refine reg_take 5 60 8 #[true, true, true, true, true, true, false, false, false, false, false, false, false, false] (by rfl) (v := ?_) rfl rfl (by kernel_rfl) (by kernel_rfl) (by kernel_rfl) (by kernel_rfl) (fun _ _ _ h => h) (by rfl) ?_ (Till.mk' g0 trivial) ?_
                     rotate_left
                     · rintro W ⟨⟨hS1, hS2⟩, hS3⟩; go_simp; all_goals with_reducible rfl
                     try simp only [List.setIfInBounds_toArray, List.set_cons_succ, List.set_cons_zero]
                     refine reg_take 6 61 7 #[true, true, true, true, true, true, true, false, false, false, false, false, false, false] (by rfl) (v := ?_) rfl rfl (by kernel_rfl) (by kernel_rfl) (by kernel_rfl) (by kernel_rfl) (fun _ _ _ h => h) (by rfl) ?_ (Till.mk' g0 trivial) ?_
                     rotate_left
                     · rintro W ⟨⟨hS1, hS2⟩, hS3⟩; go_simp; all_goals with_reducible rfl
                     try simp only [List.setIfInBounds_toArray, List.set_cons_succ, List.set_cons_zero]
                     refine reg_take 7 62 6 #[true, true, true, true, true, true, true, true, false, false, false, false, false, false] (by rfl) (v := ?_) rfl rfl (by kernel_rfl) (by kernel_rfl) (by kernel_rfl) (by kernel_rfl) (fun _ _ _ h => h) (by rfl) ?_ (Till.mk' g0 trivial) ?_
                     rotate_left
                     · rintro W ⟨⟨hS1, hS2⟩, hS3⟩; go_simp; all_goals with_reducible rfl
                     try simp only [List.setIfInBounds_toArray, List.set_cons_succ, List.set_cons_zero]
                     refine reg_take 8 63 5 #[true, true, true, true, true, true, true, true, true, false, false, false, false, false] (by rfl) (v := ?_) rfl rfl (by kernel_rfl) (by kernel_rfl) (by kernel_rfl) (by kernel_rfl) (fun _ _ _ h => h) (by rfl) ?_ (Till.mk' g0 trivial) ?_
                     rotate_left
                     · rintro W ⟨⟨hS1, hS2⟩, hS3⟩; go_simp; all_goals with_reducible rfl
                     try simp only [List.setIfInBounds_toArray, List.set_cons_succ, List.set_cons_zero]
                     refine reg_take 9 64 4 #[true, true, true, true, true, true, true, true, true, true, false, false, false, false] (by rfl) (v := ?_) rfl rfl (by kernel_rfl) (by kernel_rfl) (by kernel_rfl) (by kernel_rfl) (fun _ _ _ h => h) (by rfl) ?_ (Till.mk' g0 trivial) ?_
                     rotate_left
                     · rintro W ⟨⟨hS1, hS2⟩, hS3⟩; go_simp; all_goals with_reducible rfl
                     try simp only [List.setIfInBounds_toArray, List.set_cons_succ, List.set_cons_zero]
                     refine reg_take 10 65 3 #[true, true, true, true, true, true, true, true, true, true, true, false, false, false] (by rfl) (v := ?_) rfl rfl (by kernel_rfl) (by kernel_rfl) (by kernel_rfl) (by kernel_rfl) (fun _ _ _ h => h) (by rfl) ?_ (Till.mk' g0 trivial) ?_
                     rotate_left
                     · rintro W ⟨⟨hS1, hS2⟩, hS3⟩; go_simp; all_goals with_reducible rfl
                     try simp only [List.setIfInBounds_toArray, List.set_cons_succ, List.set_cons_zero]
                     refine reg_take 11 66 2 #[true, true, true, true, true, true, true, true, true, true, true, true, false, false] (by rfl) (v := ?_) rfl rfl (by kernel_rfl) (by kernel_rfl) (by kernel_rfl) (by kernel_rfl) (fun _ _ _ h => h) (by rfl) ?_ (Till.mk' g0 trivial) ?_
                     rotate_left
                     · rintro W ⟨⟨hS1, hS2⟩, hS3⟩; go_simp; all_goals with_reducible rfl
                     try simp only [List.setIfInBounds_toArray, List.set_cons_succ, List.set_cons_zero]
                     refine reg_take 12 67 1 #[true, true, true, true, true, true, true, true, true, true, true, true, true, false] (by rfl) (v := ?_) rfl rfl (by kernel_rfl) (by kernel_rfl) (by kernel_rfl) (by kernel_rfl) (fun _ _ _ h => h) (by rfl) ?_ (Till.mk' g0 trivial) ?_
                     rotate_left
                     · rintro W ⟨⟨hS1, hS2⟩, hS3⟩; go_simp; all_goals with_reducible rfl
                     try simp only [List.setIfInBounds_toArray, List.set_cons_succ, List.set_cons_zero]
                     refine reg_one 13 0 #[true, true, true, true, true, true, true, true, true, true, true, true, true, true] (by kernel_rfl) rfl (by rfl) (by kernel_rfl) (fun K hK => ?_)
                     go_simp
                     rw [← HW1.out]
                     refine hK _ _ (Till.mk' g1 trivial) ?_
                     clear hK K
                     try simp only [List.setIfInBounds_toArray, List.set_cons_succ, List.set_cons_zero]
                     refine reg_done (by kernel_rfl) ?_ _
                     go_wp2_with fail
                     go_roundw
                     case rel => exact ⟨j + 1, by omega, by go_num, HFT.out.1 HBB.out, HFT.out.2⟩
                     case measure => (simp [intOf] <;> omega))
              · have hjd : (j : Int) / 32 = 1 := by omega
                first
                  | (have hb : bit1 kk j = false := (by rw [HKK.out]; unfold bit1; rw [if_neg h32]; decide)
                     have HBB := Lib.hid hb
                     clear hb
                     go_upto_region 11 with fail
                     go_wp2_with fail
                     go_roundw
                     case rel => exact ⟨j + 1, by omega, by go_num, HFF.out.1 HBB.out, HFF.out.2⟩
                     case measure => (simp [intOf] <;> omega))
                  | (have hb : bit1 kk j = true := (by rw [HKK.out]; unfold bit1; rw [if_neg h32]; decide)
                     have HBB := Lib.hid hb
                     clear hb
                     go_upto_region 12 with fail
                     refine reg_begin (fun W => (W.cell? ⟨D.g, 0, none⟩ = some (.slice (some ⟨D1.n, 0, none⟩) p D1.cn) ∧ W.cell? ⟨q, 0, none⟩ = some (.int .i64 n)) ∧ W.cell? ⟨q, 1 + j, none⟩ = some (.int .u8 (x.toNat : Int))) (fun _ => True) 14 14 #[false, false, false, false, false, false, false, false, false, false, false, false, false, false] (by kernel_rfl) (by kernel_rfl) (by kernel_rfl) ?_
                     rw [← HYd.out]
                     refine reg_take 0 55 13 #[true, false, false, false, false, false, false, false, false, false, false, false, false, false] (by rfl) (v := ?_) rfl rfl (by kernel_rfl) (by kernel_rfl) (by kernel_rfl) (by kernel_rfl) (fun _ _ _ h => h) (by rfl) ?_ (Till.mk' g0 trivial) ?_
                     rotate_left
                     · rintro W ⟨⟨hS1, hS2⟩, hS3⟩; go_simp; all_goals with_reducible rfl
                     try simp only [List.setIfInBounds_toArray, List.set_cons_succ, List.set_cons_zero]
                     refine reg_take 1 56 12 #[true, true, false, false, false, false, false, false, false, false, false, false, false, false] (by rfl) (v := ?_) rfl rfl (by kernel_rfl) (by kernel_rfl) (by kernel_rfl) (by kernel_rfl) (fun _ _ _ h => h) (by rfl) ?_ (Till.mk' g0 trivial) ?_
                     rotate_left
                     · rintro W ⟨⟨hS1, hS2⟩, hS3⟩; go_simp; all_goals with_reducible rfl
                     try simp only [List.setIfInBounds_toArray, List.set_cons_succ, List.set_cons_zero]
                     refine reg_take 2 57 11 #[true, true, true, false, false, false, false, false, false, false, false, false, false, false] (by rfl) (v := ?_) rfl rfl (by kernel_rfl) (by kernel_rfl) (by kernel_rfl) (by kernel_rfl) (fun _ _ _ h => h) (by rfl) ?_ (Till.mk' g0 trivial) ?_
                     rotate_left
                     · rintro W ⟨⟨hS1, hS2⟩, hS3⟩; go_simp; all_goals with_reducible rfl
                     try simp only [List.setIfInBounds_toArray, List.set_cons_succ, List.set_cons_zero]
                     refine reg_take 3 58 10 #[true, true, true, true, false, false, false, false, false, false, false, false, false, false] (by rfl) (v := ?_) rfl rfl (by kernel_rfl) (by kernel_rfl) (by kernel_rfl) (by kernel_rfl) (fun _ _ _ h => h) (by rfl) ?_ (Till.mk' g0 trivial) ?_
                     rotate_left
                     · rintro W ⟨⟨hS1, hS2⟩, hS3⟩; go_simp; all_goals with_reducible rfl
                     try simp only [List.setIfInBounds_toArray, List.set_cons_succ, List.set_cons_zero]
                     refine reg_take 4 59 9 #[true, true, true, true, true, false, false, false, false, false, false, false, false, false] (by rfl) (v := ?_) rfl rfl (by kernel_rfl) (by kernel_rfl) (by kernel_rfl) (by kernel_rfl) (fun _ _ _ h => h) (by rfl) ?_ (Till.mk' g0 trivial) ?_
                     rotate_left
                     · rintro W ⟨⟨hS1, hS2⟩, hS3⟩; go_simp; all_goals with_reducible rfl
                     try simp only [List.setIfInBounds_toArray, List.set_cons_succ, List.set_cons_zero]
                     refine reg_take 5 60 8 #[true, true, true, true, true, true, false, false, false, false, false, false, false, false] (by rfl) (v := ?_) rfl rfl (by kernel_rfl) (by kernel_rfl) (by kernel_rfl) (by kernel_rfl) (fun _ _ _ h => h) (by rfl) ?_ (Till.mk' g0 trivial) ?_
                     rotate_left
                     · rintro W ⟨⟨hS1, hS2⟩, hS3⟩; go_simp; all_goals with_reducible rfl
                     try simp only [List.setIfInBounds_toArray, List.set_cons_succ, List.set_cons_zero]
                     refine reg_take 6 61 7 #[true, true, true, true, true, true, true, false, false, false, false, false, false, false] (by rfl) (v := ?_) rfl rfl (by kernel_rfl) (by kernel_rfl) (by kernel_rfl) (by kernel_rfl) (fun _ _ _ h => h) (by rfl) ?_ (Till.mk' g0 trivial) ?_
                     rotate_left
                     · rintro W ⟨⟨hS1, hS2⟩, hS3⟩; go_simp; all_goals with_reducible rfl
                     try simp only [List.setIfInBounds_toArray, List.set_cons_succ, List.set_cons_zero]
                     refine reg_take 7 62 6 #[true, true, true, true, true, true, true, true, false, false, false, false, false, false] (by rfl) (v := ?_) rfl rfl (by kernel_rfl) (by kernel_rfl) (by kernel_rfl) (by kernel_rfl) (fun _ _ _ h => h) (by rfl) ?_ (Till.mk' g0 trivial) ?_
                     rotate_left
                     · rintro W ⟨⟨hS1, hS2⟩, hS3⟩; go_simp; all_goals with_reducible rfl
                     try simp only [List.setIfInBounds_toArray, List.set_cons_succ, List.set_cons_zero]
                     refine reg_take 8 63 5 #[true, true, true, true, true, true, true, true, true, false, false, false, false, false] (by rfl) (v := ?_) rfl rfl (by kernel_rfl) (by kernel_rfl) (by kernel_rfl) (by kernel_rfl) (fun _ _ _ h => h) (by rfl) ?_ (Till.mk' g0 trivial) ?_
                     rotate_left
                     · rintro W ⟨⟨hS1, hS2⟩, hS3⟩; go_simp; all_goals with_reducible rfl
                     try simp only [List.setIfInBounds_toArray, List.set_cons_succ, List.set_cons_zero]
                     refine reg_take 9 64 4 #[true, true, true, true, true, true, true, true, true, true, false, false, false, false] (by rfl) (v := ?_) rfl rfl (by kernel_rfl) (by kernel_rfl) (by kernel_rfl) (by kernel_rfl) (fun _ _ _ h => h) (by rfl) ?_ (Till.mk' g0 trivial) ?_
                     rotate_left
                     · rintro W ⟨⟨hS1, hS2⟩, hS3⟩; go_simp; all_goals with_reducible rfl
                     try simp only [List.setIfInBounds_toArray, List.set_cons_succ, List.set_cons_zero]
                     refine reg_take 10 65 3 #[true, true, true, true, true, true, true, true, true, true, true, false, false, false] (by rfl) (v := ?_) rfl rfl (by kernel_rfl) (by kernel_rfl) (by kernel_rfl) (by kernel_rfl) (fun _ _ _ h => h) (by rfl) ?_ (Till.mk' g0 trivial) ?_
                     rotate_left
                     · rintro W ⟨⟨hS1, hS2⟩, hS3⟩; go_simp; all_goals with_reducible rfl
                     try simp only [List.setIfInBounds_toArray, List.set_cons_succ, List.set_cons_zero]
                     refine reg_take 11 66 2 #[true, true, true, true, true, true, true, true, true, true, true, true, false, false] (by rfl) (v := ?_) rfl rfl (by kernel_rfl) (by kernel_rfl) (by kernel_rfl) (by kernel_rfl) (fun _ _ _ h => h) (by rfl) ?_ (Till.mk' g0 trivial) ?_
                     rotate_left
                     · rintro W ⟨⟨hS1, hS2⟩, hS3⟩; go_simp; all_goals with_reducible rfl
                     try simp only [List.setIfInBounds_toArray, List.set_cons_succ, List.set_cons_zero]
                     refine reg_take 12 67 1 #[true, true, true, true, true, true, true, true, true, true, true, true, true, false] (by rfl) (v := ?_) rfl rfl (by kernel_rfl) (by kernel_rfl) (by kernel_rfl) (by kernel_rfl) (fun _ _ _ h => h) (by rfl) ?_ (Till.mk' g0 trivial) ?_
                     rotate_left
                     · rintro W ⟨⟨hS1, hS2⟩, hS3⟩; go_simp; all_goals with_reducible rfl
                     try simp only [List.setIfInBounds_toArray, List.set_cons_succ, List.set_cons_zero]
                     refine reg_one 13 0 #[true, true, true, true, true, true, true, true, true, true, true, true, true, true] (by kernel_rfl) rfl (by rfl) (by kernel_rfl) (fun K hK => ?_)
                     go_simp
                     rw [← HW1.out]
                     refine hK _ _ (Till.mk' g1 trivial) ?_
                     clear hK K
                     try simp only [List.setIfInBounds_toArray, List.set_cons_succ, List.set_cons_zero]
                     refine reg_done (by kernel_rfl) ?_ _
                     go_wp2_with fail
                     go_roundw
                     case rel => exact ⟨j + 1, by omega, by go_num, HFT.out.1 HBB.out, HFT.out.2⟩
                     case measure => (simp [intOf] <;> omega))
            · obtain rfl : j = 64 := by omega
              have hjI : ¬ ((64 : Nat) : Int) < 64 := by omega
              have hla := lay_all kk s0 n pg HN.out.2.2.1.2 (by rw [HN.out.2.2.2, crashS_len, H0.out.1.lenS]; have := HN.out.2.2.1.1; omega)
              have hcs : crashS l 0 (st.writes.take (k + 1)) st.synced = lay kk s0 n pg 64 := by
                rw [List.take_succ_eq_append_getElem hlt, crashS_snoc, List.length_take, Nat.min_eq_left (by omega), Nat.zero_add, HPK.out, ← HN.out.2.2.2, hla]
                congr 1
                rw [HN.out.1, HN.out.2.1]
              rw [← hcs] at rj
              have HF := Lib.hid rj
              clear rj bq hla hcs
              go_wp2_with fail
              go_roundw
              case rel => exact ⟨k + 1, by omega, by go_num, HF.out⟩
              case measure => (simp [intOf] <;> omega)
      · have hilI : ¬ (k : Int) < l.length := by omega
        obtain ⟨kk, hkk⟩ : ∃ kk : Int, kk = 0 := ⟨_, rfl⟩
        have HPK := Lib.hid (show pick4 l k = kk by rw [hkk]; unfold pick4; rw [List.getD_eq_getElem?_getD, List.getElem?_eq_none (by omega)]; rfl)
        have HKK := Lib.hid hkk
        clear hkk
        go_wp2_with (first
          | (refine wpList_load_mid rfl 103 (.tmp 42) rfl gv (k * 65) rfl _ _ hrange Try.underlying103 rfl hszw ?_)
          | fail)
        rw [← HQ.out]
        go_loopw [7] (fun i wr => CbR w B D D1 p q n st kk s0 pg i wr) (fun i _ => 64 - (intOf i).toNat)
        case atStart => exact ⟨0, by omega, rfl, H3.out.1, H3.out.2.1⟩
        case round =>
          obtain ⟨j, hj, rfl, rj, bq⟩ := hrel
          obtain ⟨V, hV⟩ : ∃ V, V = wr := ⟨_, rfl⟩
          subst hV
          by_cases hj8 : j < 64
          · skip
            have hjI : (j : Int) < 64 := by omega
            obtain ⟨Yd, hYd⟩ : ∃ Yd, Yd = V.drew := ⟨_, rfl⟩
            have r0 := rj.drew
            rw [← hYd] at r0
            have hb0 : Blk Yd q (.int .i64 n :: bvs pg) 103 := by rw [hYd]; exact bq.drew
            have hqj : n * 64 + j < p * 64 := by have := HN.out.2.2.1.1; omega
            obtain ⟨x, hx⟩ : ∃ x, x = pg.getD j 0 := ⟨_, rfl⟩
            have hxe : (bvs pg)[j]? = some (u8v x) := by
              have hl := HN.out.2.2.1.2
              have e : pg[j]? = some x := by rw [hx, List.getD_eq_getElem?_getD, List.getElem?_eq_getElem (by omega)]; rfl
              unfold bvs
              rw [List.getElem?_map, e]; rfl
            have S1 := r0.trans (r0.is.setNow hqj x)
            obtain ⟨W9, hW9⟩ : ∃ W9, W9 = Yd.setCell ⟨D1.n, n * 64 + j, none⟩ (u8v x) := ⟨_, rfl⟩
            rw [← hW9] at S1
            have hqn : D1.n ≠ q := fun e => H3.out.2.2.1 (by simp [RL.all, e])
            have hb1 : Blk W9 q (.int .i64 n :: bvs pg) 103 := by rw [hW9]; exact hb0.other (p := ⟨D1.n, n * 64 + j, none⟩) hqn _
            have cf : ∀ (W : World) (s : DS), RDid w B D p s W D1 → Blk W q (.int .i64 n :: bvs pg) 103 → (W.cell? ⟨D.g, 0, none⟩ = some (.slice (some ⟨D1.n, 0, none⟩) p D1.cn) ∧ W.cell? ⟨q, 0, none⟩ = some (.int .i64 n)) ∧ W.cell? ⟨q, 1 + j, none⟩ = some (.int .u8 (x.toNat : Int)) := fun W s r b => ⟨⟨by have := r.is.head.cell 0; rw [hg1] at this; simpa only [RL.head, List.getElem?_cons_zero] using this, b.cell 0⟩, by have := b.cell (1 + j); rw [Nat.add_comm 1 j, List.getElem?_cons_succ, hxe] at this; rw [Nat.add_comm 1 j]; exact this⟩
            have g0 := cf Yd _ r0 hb0
            have g1 := cf W9 _ S1 hb1
            obtain ⟨u6, q6, f6⟩ : ∃ u, Yd.cell? ⟨D1.n, n * 64 + j, none⟩ = some u ∧ Yd.frozen? ⟨D1.n, n * 64 + j, none⟩ = false := by
              obtain ⟨tn, hnw⟩ := r0.is.now
              exact ⟨_, (hnw.cell (n * 64 + j)).trans (List.getElem?_eq_getElem (by rw [List.length_append, bvs_length, r0.is.lenN]; omega)), hnw.free _⟩
            have HFT := Lib.hid (And.intro (show bit1 kk j = true → RDid w B D p ⟨st.left, st.dead, st.synced, lay kk s0 n pg (j + 1), st.writes⟩ W9 D1 from fun hb => by rw [lay, if_pos hb, ← hx]; exact S1) hb1)
            have HFF := Lib.hid (And.intro (show bit1 kk j = false → RDid w B D p ⟨st.left, st.dead, st.synced, lay kk s0 n pg (j + 1), st.writes⟩ V D1 from fun hb => by rw [lay, if_neg (by rw [hb]; decide)]; exact rj) bq)
            unfold u8v at hW9
            have HYd := Lib.hid hYd
            have HW1 := Lib.hid hW9
            have hnp : n < p := HN.out.2.2.1.1
            have hnpI : (n : Int) < p := by omega
            clear hYd hW9 r0 S1 hb0 hb1 hxe hx rj bq cf hqj hqn
            by_cases h32 : j < 32
            · have hjd : (j : Int) / 32 = 0 := by omega
              first
                | (have hb : bit1 kk j = false := (by rw [HKK.out]; unfold bit1; rw [if_pos h32]; decide)
                   have HBB := Lib.hid hb
                   clear hb
                   go_upto_region 11 with fail
                   go_wp2_with fail
                   go_roundw
                   case rel => exact ⟨j + 1, by omega, by go_num, HFF.out.1 HBB.out, HFF.out.2⟩
                   case measure => (simp [intOf] <;> omega))
                | (have hb : bit1 kk j = true := (by rw [HKK.out]; unfold bit1; rw [if_pos h32]; decide)
                   have HBB := Lib.hid hb
                   clear hb
                   go_upto_region 12 with fail
                   refine reg_begin (fun W => (W.cell? ⟨D.g, 0, none⟩ = some (.slice (some ⟨D1.n, 0, none⟩) p D1.cn) ∧ W.cell? ⟨q, 0, none⟩ = some (.int .i64 n)) ∧ W.cell? ⟨q, 1 + j, none⟩ = some (.int .u8 (x.toNat : Int))) (fun _ => True) 14 14 #[false, false, false, false, false, false, false, false, false, false, false, false, false, false] (by kernel_rfl) (by kernel_rfl) (by kernel_rfl) ?_
                   rw [← HYd.out]
                   refine reg_take 0 55 13 #[true, false, false, false, false, false, false, false, false, false, false, false, false, false] (by rfl) (v := ?_) rfl rfl (by kernel_rfl) (by kernel_rfl) (by kernel_rfl) (by kernel_rfl) (fun _ _ _ h => h) (by rfl) ?_ (Till.mk' g0 trivial) ?_
                   rotate_left
                   · rintro W ⟨⟨hS1, hS2⟩, hS3⟩; go_simp; all_goals with_reducible rfl
                   try simp only [List.setIfInBounds_toArray, List.set_cons_succ, List.set_cons_zero]
                   refine reg_take 1 56 12 #[true, true, false, false, false, false, false, false, false, false, false, false, false, false] (by rfl) (v := ?_) rfl rfl (by kernel_rfl) (by kernel_rfl) (by kernel_rfl) (by kernel_rfl) (fun _ _ _ h => h) (by rfl) ?_ (Till.mk' g0 trivial) ?_
                   rotate_left
                   · rintro W ⟨⟨hS1, hS2⟩, hS3⟩; go_simp; all_goals with_reducible rfl
                   try simp only [List.setIfInBounds_toArray, List.set_cons_succ, List.set_cons_zero]
                   refine reg_take 2 57 11 #[true, true, true, false, false, false, false, false, false, false, false, false, false, false] (by rfl) (v := ?_) rfl rfl (by kernel_rfl) (by kernel_rfl) (by kernel_rfl) (by kernel_rfl) (fun _ _ _ h => h) (by rfl) ?_ (Till.mk' g0 trivial) ?_
                   rotate_left
                   · rintro W ⟨⟨hS1, hS2⟩, hS3⟩; go_simp; all_goals with_reducible rfl
                   try simp only [List.setIfInBounds_toArray, List.set_cons_succ, List.set_cons_zero]
                   refine reg_take 3 58 10 #[true, true, true, true, false, false, false, false, false, false, false, false, false, false] (by rfl) (v := ?_) rfl rfl (by kernel_rfl) (by kernel_rfl) (by kernel_rfl) (by kernel_rfl) (fun _ _ _ h => h) (by rfl) ?_ (Till.mk' g0 trivial) ?_
                   rotate_left
                   · rintro W ⟨⟨hS1, hS2⟩, hS3⟩; go_simp; all_goals with_reducible rfl
                   try simp only [List.setIfInBounds_toArray, List.set_cons_succ, List.set_cons_zero]
                   refine reg_take 4 59 9 #[true, true, true, true, true, false, false, false, false, false, false, false, false, false] (by rfl) (v := ?_) rfl rfl (by kernel_rfl) (by kernel_rfl) (by kernel_rfl) (by kernel_rfl) (fun _ _ _ h => h) (by rfl) ?_ (Till.mk' g0 trivial) ?_
                   rotate_left
                   · rintro W ⟨⟨hS1, hS2⟩, hS3⟩; go_simp; all_goals with_reducible rfl
                   try simp only [List.setIfInBounds_toArray, List.set_cons_succ, List.set_cons_zero]
                   refine reg_take 5 60 8 #[true, true, true, true, true, true, false, false, false, false, false, false, false, false] (by rfl) (v := ?_) rfl rfl (by kernel_rfl) (by kernel_rfl) (by kernel_rfl) (by kernel_rfl) (fun _ _ _ h => h) (by rfl) ?_ (Till.mk' g0 trivial) ?_
                   rotate_left
                   · rintro W ⟨⟨hS1, hS2⟩, hS3⟩; go_simp; all_goals with_reducible rfl
                   try simp only [List.setIfInBounds_toArray, List.set_cons_succ, List.set_cons_zero]
                   refine reg_take 6 61 7 #[true, true, true, true, true, true, true, false, false, false, false, false, false, false] (by rfl) (v := ?_) rfl rfl (by kernel_rfl) (by kernel_rfl) (by kernel_rfl) (by kernel_rfl) (fun _ _ _ h => h) (by rfl) ?_ (Till.mk' g0 trivial) ?_
                   rotate_left
                   · rintro W ⟨⟨hS1, hS2⟩, hS3⟩; go_simp; all_goals with_reducible rfl
                   try simp only [List.setIfInBounds_toArray, List.set_cons_succ, List.set_cons_zero]
                   refine reg_take 7 62 6 #[true, true, true, true, true, true, true, true, false, false, false, false, false, false] (by rfl) (v := ?_) rfl rfl (by kernel_rfl) (by kernel_rfl) (by kernel_rfl) (by kernel_rfl) (fun _ _ _ h => h) (by rfl) ?_ (Till.mk' g0 trivial) ?_
                   rotate_left
                   · rintro W ⟨⟨hS1, hS2⟩, hS3⟩; go_simp; all_goals with_reducible rfl
                   try simp only [List.setIfInBounds_toArray, List.set_cons_succ, List.set_cons_zero]
                   refine reg_take 8 63 5 #[true, true, true, true, true, true, true, true, true, false, false, false, false, false] (by rfl) (v := ?_) rfl rfl (by kernel_rfl) (by kernel_rfl) (by kernel_rfl) (by kernel_rfl) (fun _ _ _ h => h) (by rfl) ?_ (Till.mk' g0 trivial) ?_
                   rotate_left
                   · rintro W ⟨⟨hS1, hS2⟩, hS3⟩; go_simp; all_goals with_reducible rfl
                   try simp only [List.setIfInBounds_toArray, List.set_cons_succ, List.set_cons_zero]
                   refine reg_take 9 64 4 #[true, true, true, true, true, true, true, true, true, true, false, false, false, false] (by rfl) (v := ?_) rfl rfl (by kernel_rfl) (by kernel_rfl) (by kernel_rfl) (by kernel_rfl) (fun _ _ _ h => h) (by rfl) ?_ (Till.mk' g0 trivial) ?_
                   rotate_left
                   · rintro W ⟨⟨hS1, hS2⟩, hS3⟩; go_simp; all_goals with_reducible rfl
                   try simp only [List.setIfInBounds_toArray, List.set_cons_succ, List.set_cons_zero]
                   refine reg_take 10 65 3 #[true, true, true, true, true, true, true, true, true, true, true, false, false, false] (by rfl) (v := ?_) rfl rfl (by kernel_rfl) (by kernel_rfl) (by kernel_rfl) (by kernel_rfl) (fun _ _ _ h => h) (by rfl) ?_ (Till.mk' g0 trivial) ?_
                   rotate_left
                   · rintro W ⟨⟨hS1, hS2⟩, hS3⟩; go_simp; all_goals with_reducible rfl
                   try simp only [List.setIfInBounds_toArray, List.set_cons_succ, List.set_cons_zero]
                   refine reg_take 11 66 2 #[true, true, true, true, true, true, true, true, true, true, true, true, false, false] (by rfl) (v := ?_) rfl rfl (by kernel_rfl) (by kernel_rfl) (by kernel_rfl) (by kernel_rfl) (fun _ _ _ h => h) (by rfl) ?_ (Till.mk' g0 trivial) ?_
                   rotate_left
                   · rintro W ⟨⟨hS1, hS2⟩, hS3⟩; go_simp; all_goals with_reducible rfl
                   try simp only [List.setIfInBounds_toArray, List.set_cons_succ, List.set_cons_zero]
                   refine reg_take 12 67 1 #[true, true, true, true, true, true, true, true, true, true, true, true, true, false] (by rfl) (v := ?_) rfl rfl (by kernel_rfl) (by kernel_rfl) (by kernel_rfl) (by kernel_rfl) (fun _ _ _ h => h) (by rfl) ?_ (Till.mk' g0 trivial) ?_
                   rotate_left
                   · rintro W ⟨⟨hS1, hS2⟩, hS3⟩; go_simp; all_goals with_reducible rfl
                   try simp only [List.setIfInBounds_toArray, List.set_cons_succ, List.set_cons_zero]
                   refine reg_one 13 0 #[true, true, true, true, true, true, true, true, true, true, true, true, true, true] (by kernel_rfl) rfl (by rfl) (by kernel_rfl) (fun K hK => ?_)
                   go_simp
                   rw [← HW1.out]
                   refine hK _ _ (Till.mk' g1 trivial) ?_
                   clear hK K
                   try simp only [List.setIfInBounds_toArray, List.set_cons_succ, List.set_cons_zero]
                   refine reg_done (by kernel_rfl) ?_ _
                   go_wp2_with fail
                   go_roundw
                   case rel => exact ⟨j + 1, by omega, by go_num, HFT.out.1 HBB.out, HFT.out.2⟩
                   case measure => (simp [intOf] <;> omega))
            · have hjd : (j : Int) / 32 = 1 := by omega
              first
                | (have hb : bit1 kk j = false := (by rw [HKK.out]; unfold bit1; rw [if_neg h32]; decide)
                   have HBB := Lib.hid hb
                   clear hb
                   go_upto_region 11 with fail
                   go_wp2_with fail
                   go_roundw
                   case rel => exact ⟨j + 1, by omega, by go_num, HFF.out.1 HBB.out, HFF.out.2⟩
                   case measure => (simp [intOf] <;> omega))
                | (have hb : bit1 kk j = true := (by rw [HKK.out]; unfold bit1; rw [if_neg h32]; decide)
                   have HBB := Lib.hid hb
                   clear hb
                   go_upto_region 12 with fail
                   refine reg_begin (fun W => (W.cell? ⟨D.g, 0, none⟩ = some (.slice (some ⟨D1.n, 0, none⟩) p D1.cn) ∧ W.cell? ⟨q, 0, none⟩ = some (.int .i64 n)) ∧ W.cell? ⟨q, 1 + j, none⟩ = some (.int .u8 (x.toNat : Int))) (fun _ => True) 14 14 #[false, false, false, false, false, false, false, false, false, false, false, false, false, false] (by kernel_rfl) (by kernel_rfl) (by kernel_rfl) ?_
                   rw [← HYd.out]
                   refine reg_take 0 55 13 #[true, false, false, false, false, false, false, false, false, false, false, false, false, false] (by rfl) (v := ?_) rfl rfl (by kernel_rfl) (by kernel_rfl) (by kernel_rfl) (by kernel_rfl) (fun _ _ _ h => h) (by rfl) ?_ (Till.mk' g0 trivial) ?_
                   rotate_left
                   · rintro W ⟨⟨hS1, hS2⟩, hS3⟩; go_simp; all_goals with_reducible rfl
                   try simp only [List.setIfInBounds_toArray, List.set_cons_succ, List.set_cons_zero]
                   refine reg_take 1 56 12 #[true, true, false, false, false, false, false, false, false, false, false, false, false, false] (by rfl) (v := ?_) rfl rfl (by kernel_rfl) (by kernel_rfl) (by kernel_rfl) (by kernel_rfl) (fun _ _ _ h => h) (by rfl) ?_ (Till.mk' g0 trivial) ?_
                   rotate_left
                   · rintro W ⟨⟨hS1, hS2⟩, hS3⟩; go_simp; all_goals with_reducible rfl
                   try simp only [List.setIfInBounds_toArray, List.set_cons_succ, List.set_cons_zero]
                   refine reg_take 2 57 11 #[true, true, true, false, false, false, false, false, false, false, false, false, false, false] (by rfl) (v := ?_) rfl rfl (by kernel_rfl) (by kernel_rfl) (by kernel_rfl) (by kernel_rfl) (fun _ _ _ h => h) (by rfl) ?_ (Till.mk' g0 trivial) ?_
                   rotate_left
                   · rintro W ⟨⟨hS1, hS2⟩, hS3⟩; go_simp; all_goals with_reducible rfl
                   try simp only [List.setIfInBounds_toArray, List.set_cons_succ, List.set_cons_zero]
                   refine reg_take 3 58 10 #[true, true, true, true, false, false, false, false, false, false, false, false, false, false] (by rfl) (v := ?_) rfl rfl (by kernel_rfl) (by kernel_rfl) (by kernel_rfl) (by kernel_rfl) (fun _ _ _ h => h) (by rfl) ?_ (Till.mk' g0 trivial) ?_
                   rotate_left
                   · rintro W ⟨⟨hS1, hS2⟩, hS3⟩; go_simp; all_goals with_reducible rfl
                   try simp only [List.setIfInBounds_toArray, List.set_cons_succ, List.set_cons_zero]
                   refine reg_take 4 59 9 #[true, true, true, true, true, false, false, false, false, false, false, false, false, false] (by rfl) (v := ?_) rfl rfl (by kernel_rfl) (by kernel_rfl) (by kernel_rfl) (by kernel_rfl) (fun _ _ _ h => h) (by rfl) ?_ (Till.mk' g0 trivial) ?_
                   rotate_left
                   · rintro W ⟨⟨hS1, hS2⟩, hS3⟩; go_simp; all_goals with_reducible rfl
                   try simp only [List.setIfInBounds_toArray, List.set_cons_succ, List.set_cons_zero]
                   refine reg_take 5 60 8 #[true, true, true, true, true, true, false, false, false, false, false, false, false, false] (by rfl) (v := ?_) rfl rfl (by kernel_rfl) (by kernel_rfl) (by kernel_rfl) (by kernel_rfl) (fun _ _ _ h => h) (by rfl) ?_ (Till.mk' g0 trivial) ?_
                   rotate_left
                   · rintro W ⟨⟨hS1, hS2⟩, hS3⟩; go_simp; all_goals with_reducible rfl
                   try simp only [List.setIfInBounds_toArray, List.set_cons_succ, List.set_cons_zero]
                   refine reg_take 6 61 7 #[true, true, true, true, true, true, true, false, false, false, false, false, false, false] (by rfl) (v := ?_) rfl rfl (by kernel_rfl) (by kernel_rfl) (by kernel_rfl) (by kernel_rfl) (fun _ _ _ h => h) (by rfl) ?_ (Till.mk' g0 trivial) ?_
                   rotate_left
                   · rintro W ⟨⟨hS1, hS2⟩, hS3⟩; go_simp; all_goals with_reducible rfl
                   try simp only [List.setIfInBounds_toArray, List.set_cons_succ, List.set_cons_zero]
                   refine reg_take 7 62 6 #[true, true, true, true, true, true, true, true, false, false, false, false, false, false] (by rfl) (v := ?_) rfl rfl (by kernel_rfl) (by kernel_rfl) (by kernel_rfl) (by kernel_rfl) (fun _ _ _ h => h) (by rfl) ?_ (Till.mk' g0 trivial) ?_
                   rotate_left
                   · rintro W ⟨⟨hS1, hS2⟩, hS3⟩; go_simp; all_goals with_reducible rfl
                   try simp only [List.setIfInBounds_toArray, List.set_cons_succ, List.set_cons_zero]
                   refine reg_take 8 63 5 #[true, true, true, true, true, true, true, true, true, false, false, false, false, false] (by rfl) (v := ?_) rfl rfl (by kernel_rfl) (by kernel_rfl) (by kernel_rfl) (by kernel_rfl) (fun _ _ _ h => h) (by rfl) ?_ (Till.mk' g0 trivial) ?_
                   rotate_left
                   · rintro W ⟨⟨hS1, hS2⟩, hS3⟩; go_simp; all_goals with_reducible rfl
                   try simp only [List.setIfInBounds_toArray, List.set_cons_succ, List.set_cons_zero]
                   refine reg_take 9 64 4 #[true, true, true, true, true, true, true, true, true, true, false, false, false, false] (by rfl) (v := ?_) rfl rfl (by kernel_rfl) (by kernel_rfl) (by kernel_rfl) (by kernel_rfl) (fun _ _ _ h => h) (by rfl) ?_ (Till.mk' g0 trivial) ?_
                   rotate_left
                   · rintro W ⟨⟨hS1, hS2⟩, hS3⟩; go_simp; all_goals with_reducible rfl
                   try simp only [List.setIfInBounds_toArray, List.set_cons_succ, List.set_cons_zero]
                   refine reg_take 10 65 3 #[true, true, true, true, true, true, true, true, true, true, true, false, false, false] (by rfl) (v := ?_) rfl rfl (by kernel_rfl) (by kernel_rfl) (by kernel_rfl) (by kernel_rfl) (fun _ _ _ h => h) (by rfl) ?_ (Till.mk' g0 trivial) ?_
                   rotate_left
                   · rintro W ⟨⟨hS1, hS2⟩, hS3⟩; go_simp; all_goals with_reducible rfl
                   try simp only [List.setIfInBounds_toArray, List.set_cons_succ, List.set_cons_zero]
                   refine reg_take 11 66 2 #[true, true, true, true, true, true, true, true, true, true, true, true, false, false] (by rfl) (v := ?_) rfl rfl (by kernel_rfl) (by kernel_rfl) (by kernel_rfl) (by kernel_rfl) (fun _ _ _ h => h) (by rfl) ?_ (Till.mk' g0 trivial) ?_
                   rotate_left
                   · rintro W ⟨⟨hS1, hS2⟩, hS3⟩; go_simp; all_goals with_reducible rfl
                   try simp only [List.setIfInBounds_toArray, List.set_cons_succ, List.set_cons_zero]
                   refine reg_take 12 67 1 #[true, true, true, true, true, true, true, true, true, true, true, true, true, false] (by rfl) (v := ?_) rfl rfl (by kernel_rfl) (by kernel_rfl) (by kernel_rfl) (by kernel_rfl) (fun _ _ _ h => h) (by rfl) ?_ (Till.mk' g0 trivial) ?_
                   rotate_left
                   · rintro W ⟨⟨hS1, hS2⟩, hS3⟩; go_simp; all_goals with_reducible rfl
                   try simp only [List.setIfInBounds_toArray, List.set_cons_succ, List.set_cons_zero]
                   refine reg_one 13 0 #[true, true, true, true, true, true, true, true, true, true, true, true, true, true] (by kernel_rfl) rfl (by rfl) (by kernel_rfl) (fun K hK => ?_)
                   go_simp
                   rw [← HW1.out]
                   refine hK _ _ (Till.mk' g1 trivial) ?_
                   clear hK K
                   try simp only [List.setIfInBounds_toArray, List.set_cons_succ, List.set_cons_zero]
                   refine reg_done (by kernel_rfl) ?_ _
                   go_wp2_with fail
                   go_roundw
                   case rel => exact ⟨j + 1, by omega, by go_num, HFT.out.1 HBB.out, HFT.out.2⟩
                   case measure => (simp [intOf] <;> omega))
          · obtain rfl : j = 64 := by omega
            have hjI : ¬ ((64 : Nat) : Int) < 64 := by omega
            have hla := lay_all kk s0 n pg HN.out.2.2.1.2 (by rw [HN.out.2.2.2, crashS_len, H0.out.1.lenS]; have := HN.out.2.2.1.1; omega)
            have hcs : crashS l 0 (st.writes.take (k + 1)) st.synced = lay kk s0 n pg 64 := by
              rw [List.take_succ_eq_append_getElem hlt, crashS_snoc, List.length_take, Nat.min_eq_left (by omega), Nat.zero_add, HPK.out, ← HN.out.2.2.2, hla]
              congr 1
              rw [HN.out.1, HN.out.2.1]
            rw [← hcs] at rj
            have HF := Lib.hid rj
            clear rj bq hla hcs
            go_wp2_with fail
            go_roundw
            case rel => exact ⟨k + 1, by omega, by go_num, HF.out⟩
            case measure => (simp [intOf] <;> omega)
    · obtain rfl : k = st.writes.length := by omega
      rw [List.take_length] at rd
      obtain ⟨X, hX⟩ : ∃ X, X = crashS l 0 st.writes st.synced := ⟨_, rfl⟩
      rw [← hX] at rd
      have HX := Lib.hid (show st.crash l = ⟨0, false, X, X, []⟩ by rw [hX]; rfl)
      have c0 := rd.is.head.cell 0
      simp only [RL.head, List.getElem?_cons_zero] at c0
      rw [hg1] at c0
      obtain ⟨tn, hnw⟩ := rd.is.now
      have hsl := hnw.sl 0 p D1.cn 64 (by rw [List.length_append, bvs_length, rd.is.lenN]; omega) rd.is.caps.1 (by simp only [maxLen]; exact rd.is.caps.2.1)
      rw [List.drop_zero, List.take_left' (by rw [bvs_length, rd.is.lenN])] at hsl
      obtain ⟨k2, ck2, w5, hr5, hb5, hk5, hc5, t5⟩ := run_fresh_pages Y hsl (Nat.le_refl _) hp 93
      have S2 := rd.is.syncTo t5 hk5 hb5 hc5
      have c1' := (rd.is.turns t5 (by simp)).head.cell 1
      have f1' := (rd.is.turns t5 (by simp)).head.free 1
      simp only [RL.head, List.getElem?_cons_zero, List.getElem?_cons_succ] at c1'
      have S3 := S2.is.letgo
      have q2 := S2.is.head.cell 2
      have g2 := S2.is.head.free 2
      have q3 := S2.is.head.cell 3
      have g3 := S2.is.head.free 3
      have q4 := S2.is.head.cell 4
      have g4 := S2.is.head.free 4
      simp only [RL.head, List.getElem?_cons_zero, List.getElem?_cons_succ] at q2 q3 q4
      have S4 := S3.is.set3 0 (by omega)
      have S5 := S4.is.set4 false
      have c0a := cellW ((Turns.refl [] Y).alloc (.cells #[] 98)) c0
      have hfn := (((rd.trans S2).trans S3).trans S4).trans S5
      rw [hg1] at c1' f1' q2 g2 q3 g3 q4 g4 hfn
      have HF := Lib.hid hfn
      have hltI : ¬ (st.writes.length : Int) < st.writes.length := by omega
      clear S2 S3 S4 S5 hfn rd hsl hnw hb5 hk5 hc5 t5 hX
      go_wp2_with (at_builtin; refine wpList_append_at rfl (.tmp 69) (.tmp 73) rfl hr5 rfl rfl ?_)
      go_end0
      refine ⟨rfl, ?_⟩
      rw [HX.out]
      exact ⟨_, HF.out⟩
end Go.Proofs.Ytdhbaepmbgoobaa
namespace Go.Proofs.Ytdhbaepmbgoobaa
open Go.RowKit
set_option linter.unusedVariables false
set_option linter.unusedSimpArgs false
set_option linter.unnecessarySimpa false

theorem within7_any (a n : Int) (w : World) (h1 : -9223372036854775808 ≤ a) (h2 : a ≤ 9223372036854775807) (hn : 0 < n) (hn2 : n ≤ 1000000) :
    Calls Try.prog 50 #[.int .i64 a, .int .i64 n] w fun e w' => e = .returned (.int .i64 (a % n)) ∧ w = w' := by
  have hne : (n == 0) = false := by simp; omega
  have t1 := (tmod_bounds a n hn).1
  have t2 := (tmod_bounds a n hn).2
  have hv := within_val a n hn
  by_cases ha : 0 ≤ a
  · have e0 : a.tmod n = a % n := Int.tmod_eq_emod_of_nonneg ha
    have e1 := Int.emod_nonneg a (show n ≠ 0 by omega)
    clear hv
    rw [e0] at t1 t2
    clear e0
    go_enter Try.func50, Try.ntmps50
    go_wp2_with fail
    go_ret
    exact ⟨rfl, rfl⟩
  · rw [hv]
    clear hv
    by_cases hneg : a.tmod n < 0
    · rw [if_pos hneg]
      go_enter Try.func50, Try.ntmps50
      go_wp2_with fail
      go_ret
      exact ⟨rfl, rfl⟩
    · rw [if_neg hneg]
      go_enter Try.func50, Try.ntmps50
      go_wp2_with fail
      go_ret
      exact ⟨rfl, rfl⟩

section
variable {w0 w w' : World} {g xg p : Nat} {st sx : DS} {X : List Nat}
/-- What an operation that tells nothing leaves. -/
def CTold (w0 w : World) (g xg p : Nat) (st sx : DS) (X : List Nat) (v : Value) (e : Ending) (w' : World) : Prop := e = .returned v ∧ Two w0 w' g xg p st sx X ∧ Same X w w'
theorem TStop (h : Two w0 w g xg p st sx X) (n : Int) (hn : n ≤ 9223372036854775807) :
    Calls Try.prog 22 #[.pointer (some ⟨g, 0, none⟩), .int .i64 n] w (CTold w0 w g xg p (st.stop n) sx X (.tuple #[])) := by
  obtain ⟨D, xd, B, Bx, rfl, rfl, h⟩ := h
  exact (Stop_any D.g st.left n _ w h.d.head).mono fun e w' ⟨he, hb, ht⟩ => ⟨he, h.code (power_did (L := max n 0) (d := st.dead) h.d hb ht (by omega))⟩
theorem TRStop (h : Two w0 w g xg p st sx X) (n : Int) (hn : -9223372036854775808 ≤ n ∧ n ≤ 9223372036854775807) :
    Calls Try.prog 52 #[.pointer (some ⟨xg, 0, none⟩), .int .i64 n] w (CTold w0 w g xg p st (sx.stop n) X (.tuple #[])) := by
  obtain ⟨D, xd, B, Bx, rfl, rfl, h⟩ := h
  exact (RStop_any w Bx xd p sx n h.x hn).mono fun e w' ⟨he, hk⟩ => ⟨he, h.ref hk⟩
theorem Two.off (h : Two w0 w g xg p st sx X) {y : Nat} (hy : y ∈ X ∨ y < w0.heap.size) : ∃ (D : DL) (xd : RL) (B Bx : Nat), D.g = g ∧ xd.g = xg ∧ TwoD w0 w D xd B Bx p st sx X ∧ y ∉ D.all ∧ y ∉ xd.all := by
  obtain ⟨D, xd, B, Bx, e1, e2, h⟩ := h
  refine ⟨D, xd, B, Bx, e1, e2, h, fun hm => ?_, fun hm => ?_⟩
  · rcases hy with hy | hy
    · exact (h.kept y hy).1 hm
    · have := h.d.lowAll y hm; have := h.lowB; omega
  · rcases hy with hy | hy
    · exact (h.kept y hy).2.1 hm
    · have := h.x.lowAll y hm; have := h.lowX; omega
theorem own_some {A : Option Addr} {n c : Nat} {y : Nat} (h : (Value.slice A n c).ownBlock = some y) : ∃ a, A = some a ∧ a.block = y := by
  cases A with
  | none => simp [Value.ownBlock] at h
  | some a => exact ⟨a, rfl, by simpa [Value.ownBlock] using h⟩
theorem TCrash (h : Two w0 w g xg p st sx X) (A : Option Addr) (c : Nat) (l : List Int) (hf : st.fine p) (hwl : st.writes.length ≤ 1000000)
    (hs : Sl w w.heap.size 1 (.slice A l.length c) l.length (l.map (Value.int .i64))) (hi : ∀ z ∈ l, -9223372036854775808 ≤ z ∧ z ≤ 9223372036854775807) (hA : l ≠ [] → ∀ y, (Value.slice A l.length c).ownBlock = some y → y ∈ X ∨ y < w0.heap.size) :
    Calls Try.prog 23 #[.pointer (some ⟨g, 0, none⟩), .slice A l.length c] w (CTold w0 w g xg p (st.crash l) sx X (.tuple #[])) := by
  obtain ⟨D, xd, B, Bx, rfl, rfl, h⟩ := h
  refine (Crash_any w B D p st A c l h.d hf hwl hs hi (fun hne x hm he => ?_)).mono fun e w' ⟨he, hk⟩ => ⟨he, h.code hk⟩
  rcases hA hne x he with hy | hy
  · exact (h.kept x hy).1 hm
  · have := h.d.lowAll x hm; have := h.lowB; omega
theorem TRCrash (h : Two w0 w g xg p st sx X) (A : Option Addr) (c : Nat) (l : List Int) (hf : sx.fine p) (hwl : sx.writes.length ≤ 1000000)
    (hs : Sl w w.heap.size 1 (.slice A l.length c) l.length (l.map (Value.int .i64))) (hi : ∀ z ∈ l, -9223372036854775808 ≤ z ∧ z ≤ 9223372036854775807) (hA : l ≠ [] → ∀ y, (Value.slice A l.length c).ownBlock = some y → y ∈ X ∨ y < w0.heap.size) :
    Calls Try.prog 53 #[.pointer (some ⟨xg, 0, none⟩), .slice A l.length c] w (CTold w0 w g xg p st (sx.crash l) X (.tuple #[])) := by
  obtain ⟨D, xd, B, Bx, rfl, rfl, h⟩ := h
  refine (RCrash_any w Bx xd p sx A c l h.x hf hwl hs hi (fun hne x he hm => ?_)).mono fun e w' ⟨he, hk⟩ => ?_
  · rcases hA hne x he with hy | hy
    · exact (h.kept x hy).2.1 hm
    · have := h.x.lowAll x hm; have := h.lowX; omega
  · obtain ⟨D', hk⟩ := hk
    exact ⟨he, h.ref hk⟩
/-- What is written over, or not. -/
def DS.tamp (st : DS) (p : Nat) (n a : Int) (bs : List UInt8) : DS := if 0 ≤ n ∧ n < p ∧ 0 ≤ a ∧ a ≤ 64 ∧ (bs.length : Int) ≤ 64 - a then st.tamper n.toNat a.toNat bs else st
def tampB (p : Nat) (n a : Int) (l : Nat) : Bool := decide (0 ≤ n ∧ n < p ∧ 0 ≤ a ∧ a ≤ 64 ∧ (l : Int) ≤ 64 - a)
theorem TTamper (h : Two w0 w g xg p st sx X) (n a : Int) (A : Option Addr) (c : Nat) (bs : List UInt8) (hb : Sl w w.heap.size 1 (.slice A bs.length c) bs.length (bvs bs)) (hA : ∀ y, (Value.slice A bs.length c).ownBlock = some y → y ∈ X ∨ y < w0.heap.size) :
    Calls Try.prog 24 #[.pointer (some ⟨g, 0, none⟩), .int .i64 n, .int .i64 a, .slice A bs.length c] w (CTold w0 w g xg p (st.tamp p n a bs) sx X (.bool (tampB p n a bs.length))) := by
  obtain ⟨D, xd, B, Bx, rfl, rfl, h⟩ := h
  have hbl : bs.length ≤ 9223372036854775807 := by
    obtain ⟨_, _, _, ee, h1, h2, _⟩ := hb
    injection ee with _ _ e3
    subst e3
    unfold maxLen at h2
    omega
  unfold DS.tamp tampB
  by_cases hc : 0 ≤ n ∧ n < p ∧ 0 ≤ a ∧ a ≤ 64 ∧ (bs.length : Int) ≤ 64 - a
  · rw [if_pos hc, decide_eq_true hc]
    obtain ⟨n', rfl⟩ : ∃ n' : Nat, n = n' := ⟨n.toNat, by omega⟩
    obtain ⟨a', rfl⟩ : ∃ a' : Nat, a = a' := ⟨a.toNat, by omega⟩
    rw [Int.toNat_natCast, Int.toNat_natCast]
    refine (Tamper_ok w B D p n' a' st _ bs h.d hb (fun x hm he => ?_) (by omega) (by omega) (by omega)).mono fun e w' ⟨he, hk⟩ => ⟨he, h.code hk⟩
    rcases hA x he with hy | hy
    · exact (h.kept x hy).1 hm
    · have := h.d.lowAll x hm; have := h.lowB; omega
  · rw [if_neg hc, decide_eq_false hc]
    refine (Tamper_bad w B D p bs.length n a A c st h.d hbl hc).mono fun e w' ⟨he, hw⟩ => ?_
    subst hw
    exact ⟨he, ⟨D, xd, B, Bx, rfl, rfl, h⟩, fun x hx => rfl⟩
theorem TRTamper (h : Two w0 w g xg p st sx X) (n a : Int) (A : Option Addr) (c : Nat) (bs : List UInt8) (hb : Sl w w.heap.size 1 (.slice A bs.length c) bs.length (bvs bs)) (hA : bs ≠ [] → ∀ y, (Value.slice A bs.length c).ownBlock = some y → y ∈ X ∨ y < w0.heap.size) :
    Calls Try.prog 54 #[.pointer (some ⟨xg, 0, none⟩), .int .i64 n, .int .i64 a, .slice A bs.length c] w (CTold w0 w g xg p st (sx.tamp p n a bs) X (.bool (tampB p n a bs.length))) := by
  obtain ⟨D, xd, B, Bx, rfl, rfl, h⟩ := h
  have hbl : bs.length ≤ 9223372036854775807 := by
    obtain ⟨_, _, _, ee, h1, h2, _⟩ := hb
    injection ee with _ _ e3
    subst e3
    unfold maxLen at h2
    omega
  unfold DS.tamp tampB
  by_cases hc : 0 ≤ n ∧ n < p ∧ 0 ≤ a ∧ a ≤ 64 ∧ (bs.length : Int) ≤ 64 - a
  · rw [if_pos hc, decide_eq_true hc]
    obtain ⟨n', rfl⟩ : ∃ n' : Nat, n = n' := ⟨n.toNat, by omega⟩
    obtain ⟨a', rfl⟩ : ∃ a' : Nat, a = a' := ⟨a.toNat, by omega⟩
    rw [Int.toNat_natCast, Int.toNat_natCast]
    refine (RTamper_ok w Bx xd p n' a' sx A c bs h.x hb (fun hne x he hm => ?_) (by omega) (by omega) (by omega)).mono fun e w' ⟨he, hk⟩ => ⟨he, h.ref hk⟩
    rcases hA hne x he with hy | hy
    · exact (h.kept x hy).2.1 hm
    · have := h.x.lowAll x hm; have := h.lowX; omega
  · rw [if_neg hc, decide_eq_false hc]
    refine (RTamper_no w Bx xd p bs.length n a A c sx h.x hbl hc).mono fun e w' ⟨he, hw⟩ => ?_
    subst hw
    exact ⟨he, ⟨D, xd, B, Bx, rfl, rfl, h⟩, fun x hx => rfl⟩
end
end Go.Proofs.Ytdhbaepmbgoobaa
namespace Go.Proofs.Ytdhbaepmbgoobaa
open Go.RowKit
set_option linter.unusedVariables false
set_option linter.unusedSimpArgs false
set_option linter.unnecessarySimpa false

/-- An act's cells. -/
def AC (kd P N : Int) (vB vP : Value) : List Value := [.int .i64 kd, .int .i64 P, .int .i64 N, vB, vP]
theorem T3i : SliceTy Try.prog 22 3 (.int .i64 0) 1 8 := ⟨Try.underlying22, by kernel_rfl, rfl, by omega⟩
/-- 'append([]int{}, l...)', behind the empty literal. -/
theorem run_fresh_ints (w : World) {B n : Nat} {x : Value} {l : List Int} (h : Sl w B 1 x n (l.map (Value.int .i64))) (hB : B ≤ w.heap.size) (hn : n ≤ 140737488355) (ty : TypeId) :
    ∃ v' w', (Builtin.append_ #[22, 22] ty #[.slice (some ⟨w.heap.size, 0, none⟩) 0 0, x]).run Try.prog (w.alloc (.cells #[] 3)) = .ok v' w' ∧
      (w'.ownsRow w.heap.size 3 1 v' n (l.map (Value.int .i64)) ∧ Turns [] w w') := by
  have hown : (w.alloc (.cells #[] 3)).ownsRow w.heap.size 3 1 (.slice (some ⟨w.heap.size, 0, none⟩) 0 0) 0 [] := World.ownsRow_made w #[] 0 (Nat.le_refl _) (Nat.zero_le _) (by simp)
  obtain ⟨v', w', hr, ap⟩ := run_append_rd (P := Try.prog) _ T3i ty hown (h.alloc hB _) (by intro u hu; simp at hu; obtain ⟨z, _, rfl⟩ := hu; rfl) (by simp only [maxLen]; omega) (by omega) (by simp)
  refine ⟨v', w', hr, by simpa using ap.own, ?_⟩
  exact Turns.trans (L' := [w.heap.size]) ((Turns.refl [] w).alloc _) (Turns.of_grown ap.grown (by intro k hk; simp [Value.ownBlock] at hk; simp [hk])) (by intro x hx; simp at hx; simp [hx])
/-- What Do leaves: both alike, in some state that is as fine. -/
def DidBoth (w0 w : World) (g xg p : Nat) (st : DS) (X : List Nat) (e : Ending) (w' : World) : Prop := e = .returned (.bool true) ∧ ∃ st' : DS, Two w0 w' g xg p st' st' X ∧ Same X w w' ∧ st'.fine p ∧ st'.writes.length ≤ st.writes.length ∧ (0 ≤ st'.left ∧ st'.left ≤ 9223372036854775807)

theorem Two.hold {w0 w w' : World} {g xg p : Nat} {st sx : DS} {X : List Nat} (h : Two w0 w g xg p st sx X) (t : Turns [] w w') {v : Value} (hv : ∀ y, v.ownBlock = some y → w.heap.size ≤ y ∧ y < w'.heap.size) : ∃ X', Two w0 w' g xg p st sx X' ∧ (∀ y, v.ownBlock = some y → y ∈ X') ∧ ∀ x ∈ X, x ∈ X' := by
  cases hb : v.ownBlock with
  | none => exact ⟨X, h.turn t (by simp), fun y hy => (by cases hy), fun x hx => hx⟩
  | some y =>
    obtain ⟨h1, h2⟩ := hv y hb
    exact ⟨y :: X, h.more t h1 h2, fun z hz => (by injection hz with hz; subst hz; simp), fun x hx => List.mem_cons_of_mem _ hx⟩
theorem sl_low {w : World} {B size n c : Nat} {A : Option Addr} {xs : List Value} (h : Sl w B size (.slice A n c) n xs) (hne : xs ≠ []) : ∀ y, (Value.slice A n c).ownBlock = some y → y < B := by
  obtain ⟨_, A', c', he, _, _, _, hrd⟩ := h
  injection he with e1 _ _
  subst e1
  obtain ⟨b, off, rfl, hb, _⟩ := hrd hne
  intro y hy
  simp [Value.ownBlock] at hy
  subst hy
  exact hb
theorem Two.argD {w0 w : World} {g xg p n size : Nat} {st sx : DS} {X : List Nat} {v : Value} {xs : List Value} (h : Two w0 w g xg p st sx X) (hs : Sl w0 w0.heap.size size v n xs) : Sl w w.heap.size size v n xs := (hs.below h.bel).more h.bel.size

set_option maxRecDepth 100000 in
set_option maxHeartbeats 8000000 in
theorem Do_any {w0 w : World} {g xg : Nat} {st : DS} {X : List Nat} (h : Two w0 w g xg 6 st st X) (kd P N : Int) (AB AP : Option Addr) (nB cB nP cP : Nat) (bs : List UInt8) (ps : List Int)
    (hk : kd % 9 = 6 ∨ kd % 9 = 7 ∨ kd % 9 = 8) (hkd : -9223372036854775808 ≤ kd ∧ kd ≤ 9223372036854775807) (hP : -9223372036854775808 ≤ P ∧ P ≤ 9223372036854775807) (hN : -9223372036854775808 ≤ N ∧ N ≤ 9223372036854775807)
    (hB : Sl w0 w0.heap.size 1 (.slice AB bs.length cB) bs.length (bvs bs)) (hPs : Sl w0 w0.heap.size 1 (.slice AP ps.length cP) ps.length (ps.map (Value.int .i64))) (hi : ∀ z ∈ ps, -9223372036854775808 ≤ z ∧ z ≤ 9223372036854775807)
    (hbl : bs.length ≤ 80) (hpl : ps.length ≤ 40) (hf : st.fine 6) (hwl : st.writes.length ≤ 1000000) :
    Calls Try.prog 27 #[.agg (AC kd P N (.slice AB bs.length cB) (.slice AP ps.length cP)).toArray, .pointer (some ⟨g, 0, none⟩), .pointer (some ⟨xg, 0, none⟩)] w (DidBoth w0 w g xg 6 st X) := by
  obtain ⟨vB, hvB⟩ : ∃ v, v = Value.slice AB bs.length cB := ⟨_, rfl⟩
  obtain ⟨vP, hvP⟩ : ∃ v, v = Value.slice AP ps.length cP := ⟨_, rfl⟩
  rw [← hvB, ← hvP]
  obtain ⟨W1, hW1⟩ : ∃ W1, W1 = w.alloc (.cells (AC kd P N vB vP).toArray 76) := ⟨_, rfl⟩
  have bq := Blk.new w (AC kd P N vB vP) 76
  rw [← hW1] at bq
  obtain ⟨q, hq⟩ : ∃ q, q = w.heap.size := ⟨_, rfl⟩
  rw [← hq] at bq
  obtain ⟨W2, hW2⟩ : ∃ W2, W2 = W1.drew := ⟨_, rfl⟩
  have t2 : Turns [] w W2 := by rw [hW2, hW1]; exact ((Turns.refl [] w).alloc _).drew
  have b2 : Blk W2 q (AC kd P N vB vP) 76 := by rw [hW2]; exact bq.drew
  have tw2 := h.more t2 (by omega : w.heap.size ≤ q) b2.lt
  have sm2 := h.same t2
  have W7 := Lib.hid fun (W : World) => within7_any P 7 W hP.1 hP.2 (by omega) (by omega)
  have W30 := Lib.hid fun (W : World) => within7_any N 30 W hN.1 hN.2 (by omega) (by omega)
  have W9 := Lib.hid fun (W : World) => within7_any kd 9 W hkd.1 hkd.2 (by omega) (by omega)
  have W6 := Lib.hid fun (W : World) => within7_any N 6 W hN.1 hN.2 (by omega) (by omega)
  have W70 := Lib.hid fun (W : World) => within7_any N 70 W hN.1 hN.2 (by omega) (by omega)
  have q1 := b2.cell 1
  have q2 := b2.cell 2
  have q0 := b2.cell 0
  simp only [AC, List.getElem?_cons_zero, List.getElem?_cons_succ] at q0 q1 q2
  have S0 : W2.cell? ⟨q, 1, none⟩ = some (.int .i64 P) ∧ W2.cell? ⟨q, 2, none⟩ = some (.int .i64 N) := ⟨q1, q2⟩
  have h30 : 0 ≤ N % 30 ∧ N % 30 < 30 := by omega
  have h7 : 0 ≤ P % 7 ∧ P % 7 < 7 := by omega
  have HQ := Lib.hid (And.intro hW1 (And.intro hq hW2))
  have HV := Lib.hid (And.intro hvB hvP)
  have H0 := Lib.hid (And.intro hB (And.intro hPs (And.intro hi (And.intro hf hwl))))
  have H2 := Lib.hid (And.intro tw2 (And.intro sm2 b2))
  have HL := Lib.hid h.pages
  have HLF := Lib.hid (show 0 ≤ st.left ∧ st.left ≤ 9223372036854775807 by obtain ⟨D, xd, B, Bx, _, _, h⟩ := h; exact h.d.left0)
  clear h hvB hvP hW1 hq hW2 t2 b2 tw2 sm2 hP hkd hB hPs hi hf hwl bq
  go_enter Try.func27, Try.ntmps27
  go_upto_region 1 with fail
  refine reg_begin (fun W => W.cell? ⟨q, 1, none⟩ = some (.int .i64 P) ∧ W.cell? ⟨q, 2, none⟩ = some (.int .i64 N)) (fun _ => True) 9 9 #[false, false, false, false, false, false, false, false, false] (by kernel_rfl) (by kernel_rfl) (by kernel_rfl) ?_
  rw [← HQ.out.1, ← HQ.out.2.1, ← HQ.out.2.2]
  refine reg_take 0 10 8 #[true, false, false, false, false, false, false, false, false] (by rfl) (v := ?_) rfl rfl (by kernel_rfl) (by kernel_rfl) (by kernel_rfl) (by kernel_rfl) (fun _ _ _ h => h) (by rfl) ?_ (Till.mk' S0 trivial) ?_
  rotate_left
  · rintro W ⟨hS1, hS2⟩; go_simp; all_goals with_reducible rfl
  try simp only [List.setIfInBounds_toArray, List.set_cons_succ, List.set_cons_zero]
  refine reg_take 1 11 7 #[true, true, false, false, false, false, false, false, false] (by rfl) (v := ?_) rfl rfl (by kernel_rfl) (by kernel_rfl) (by kernel_rfl) (by kernel_rfl) (fun _ _ _ h => h) (by rfl) ?_ (Till.mk' S0 trivial) ?_
  rotate_left
  · rintro W ⟨hS1, hS2⟩; go_simp; all_goals with_reducible rfl
  try simp only [List.setIfInBounds_toArray, List.set_cons_succ, List.set_cons_zero]
  refine reg_take 3 13 6 #[true, true, false, true, false, false, false, false, false] (by rfl) (v := ?_) rfl rfl (by kernel_rfl) (by kernel_rfl) (by kernel_rfl) (by kernel_rfl) (fun _ _ _ h => h) (by rfl) ?_ (Till.mk' S0 trivial) ?_
  rotate_left
  · rintro W ⟨hS1, hS2⟩; go_simp; all_goals with_reducible rfl
  try simp only [List.setIfInBounds_toArray, List.set_cons_succ, List.set_cons_zero]
  refine reg_take 4 14 5 #[true, true, false, true, true, false, false, false, false] (by rfl) (v := ?_) rfl rfl (by kernel_rfl) (by kernel_rfl) (by kernel_rfl) (by kernel_rfl) (fun _ _ _ h => h) (by rfl) ?_ (Till.mk' S0 trivial) ?_
  rotate_left
  · rintro W ⟨hS1, hS2⟩; go_simp; all_goals with_reducible rfl
  try simp only [List.setIfInBounds_toArray, List.set_cons_succ, List.set_cons_zero]
  refine reg_one 2 4 #[true, true, true, true, true, false, false, false, false] (by kernel_rfl) rfl (by rfl) (by kernel_rfl) (fun K hK => ?_)
  go_simp
  refine (W7.out W2).mono ?_
  rintro e ww ⟨rfl, rfl⟩
  refine hK _ _ (Till.mk' S0 trivial) ?_
  clear hK K
  try simp only [List.setIfInBounds_toArray, List.set_cons_succ, List.set_cons_zero]
  refine reg_one 5 3 #[true, true, true, true, true, true, false, false, false] (by kernel_rfl) rfl (by rfl) (by kernel_rfl) (fun K hK => ?_)
  go_simp
  refine (W30.out W2).mono ?_
  rintro e ww ⟨rfl, rfl⟩
  refine hK _ _ (Till.mk' S0 trivial) ?_
  clear hK K
  try simp only [List.setIfInBounds_toArray, List.set_cons_succ, List.set_cons_zero]
  refine reg_take 6 16 2 #[true, true, true, true, true, true, true, false, false] (by rfl) (v := ?_) rfl rfl (by kernel_rfl) (by kernel_rfl) (by kernel_rfl) (by kernel_rfl) (fun _ _ _ h => h) (by rfl) ?_ (Till.mk' S0 trivial) ?_
  rotate_left
  · rintro W ⟨hS1, hS2⟩; go_simp; all_goals with_reducible rfl
  try simp only [List.setIfInBounds_toArray, List.set_cons_succ, List.set_cons_zero]
  refine reg_take 7 17 1 #[true, true, true, true, true, true, true, true, false] (by rfl) (v := ?_) rfl rfl (by kernel_rfl) (by kernel_rfl) (by kernel_rfl) (by kernel_rfl) (fun _ _ _ h => h) (by rfl) ?_ (Till.mk' S0 trivial) ?_
  rotate_left
  · rintro W ⟨hS1, hS2⟩; go_simp; all_goals with_reducible rfl
  try simp only [List.setIfInBounds_toArray, List.set_cons_succ, List.set_cons_zero]
  refine reg_take 8 7 0 #[true, true, true, true, true, true, true, true, true] (by rfl) (v := ?_) rfl rfl (by kernel_rfl) (by kernel_rfl) (by kernel_rfl) (by kernel_rfl) (fun _ _ _ h => h) (by rfl) ?_ (Till.mk' S0 trivial) ?_
  rotate_left
  · rintro W ⟨hS1, hS2⟩; go_simp; all_goals with_reducible rfl
  try simp only [List.setIfInBounds_toArray, List.set_cons_succ, List.set_cons_zero]
  refine reg_done (by kernel_rfl) ?_ _
  obtain ⟨z, hz⟩ : ∃ z, z = IntKind.i64.wrap (P % 7 - IntKind.i64.wrap ((N % 30).tdiv 29)) := ⟨_, rfl⟩
  rw [← hz]
  clear hz h7
  go_wp2_with fail
  refine (W9.out W2).mono ?_
  rintro e ww ⟨rfl, rfl⟩
  clear W7 W30 W9
  rcases hk with hk | hk | hk
  · rw [hk]
    obtain ⟨W3, hW3⟩ : ∃ W3, W3 = W2.drew := ⟨_, rfl⟩
    have t3 : Turns [] W2 W3 := by rw [hW3]; exact (Turns.refl _ _).drew
    have q2d := cellW t3 q2
    have ST := Lib.hid (TStop (H2.out.1.turn t3 (by simp)) (N % 6 - 1) (by omega))
    have HW3 := Lib.hid hW3
    have H3 := Lib.hid (H2.out.2.1.trans ((H2.out.1.same t3).sub (fun x hx => List.mem_cons_of_mem _ hx)))
    have hw6 : IntKind.i64.wrap (N % 6 - 1) = N % 6 - 1 := by rw [IntKind.wrap_i64]; omega
    have h6 : 0 ≤ N % 6 ∧ N % 6 < 6 := by omega
    clear hW3 t3 W70 hk
    go_upto_region 15 with fail
    refine reg_begin (fun W => W.cell? ⟨q, 2, none⟩ = some (.int .i64 N)) (fun _ => True) 8 8 #[false, false, false, false, false, false, false, false] (by kernel_rfl) (by kernel_rfl) (by kernel_rfl) ?_
    rw [← HW3.out]
    refine reg_take 0 58 7 #[true, false, false, false, false, false, false, false] (by rfl) (v := ?_) rfl rfl (by kernel_rfl) (by kernel_rfl) (by kernel_rfl) (by kernel_rfl) (fun _ _ _ h => h) (by rfl) ?_ (Till.mk' q2d trivial) ?_
    rotate_left
    · intro W hS; go_simp; all_goals with_reducible rfl
    try simp only [List.setIfInBounds_toArray, List.set_cons_succ, List.set_cons_zero]
    refine reg_take 1 59 6 #[true, true, false, false, false, false, false, false] (by rfl) (v := ?_) rfl rfl (by kernel_rfl) (by kernel_rfl) (by kernel_rfl) (by kernel_rfl) (fun _ _ _ h => h) (by rfl) ?_ (Till.mk' q2d trivial) ?_
    rotate_left
    · intro W hS; go_simp; all_goals with_reducible rfl
    try simp only [List.setIfInBounds_toArray, List.set_cons_succ, List.set_cons_zero]
    refine reg_take 2 60 5 #[true, true, true, false, false, false, false, false] (by rfl) (v := ?_) rfl rfl (by kernel_rfl) (by kernel_rfl) (by kernel_rfl) (by kernel_rfl) (fun _ _ _ h => h) (by rfl) ?_ (Till.mk' q2d trivial) ?_
    rotate_left
    · intro W hS; go_simp; all_goals with_reducible rfl
    try simp only [List.setIfInBounds_toArray, List.set_cons_succ, List.set_cons_zero]
    refine reg_take 3 61 4 #[true, true, true, true, false, false, false, false] (by rfl) (v := ?_) rfl rfl (by kernel_rfl) (by kernel_rfl) (by kernel_rfl) (by kernel_rfl) (fun _ _ _ h => h) (by rfl) ?_ (Till.mk' q2d trivial) ?_
    rotate_left
    · intro W hS; go_simp; all_goals with_reducible rfl
    try simp only [List.setIfInBounds_toArray, List.set_cons_succ, List.set_cons_zero]
    refine reg_take 4 62 3 #[true, true, true, true, true, false, false, false] (by rfl) (v := ?_) rfl rfl (by kernel_rfl) (by kernel_rfl) (by kernel_rfl) (by kernel_rfl) (fun _ _ _ h => h) (by rfl) ?_ (Till.mk' q2d trivial) ?_
    rotate_left
    · intro W hS; have c9 : W.cell? ⟨q, 2, none⟩ = some (.int .i64 N) := hS; go_simp; all_goals with_reducible rfl
    try simp only [List.setIfInBounds_toArray, List.set_cons_succ, List.set_cons_zero]
    refine reg_one 5 2 #[true, true, true, true, true, true, false, false] (by kernel_rfl) rfl (by rfl) (by kernel_rfl) (fun K hK => ?_)
    go_simp
    refine (W6.out W3).mono ?_
    rintro e ww ⟨rfl, rfl⟩
    refine hK _ _ (Till.mk' q2d trivial) ?_
    clear hK K
    try simp only [List.setIfInBounds_toArray, List.set_cons_succ, List.set_cons_zero]
    refine reg_take 6 64 1 #[true, true, true, true, true, true, true, false] (by rfl) (v := ?_) rfl rfl (by kernel_rfl) (by kernel_rfl) (by kernel_rfl) (by kernel_rfl) (fun _ _ _ h => h) (by rfl) ?_ (Till.mk' q2d trivial) ?_
    rotate_left
    · intro W hS; go_simp; all_goals with_reducible rfl
    try simp only [List.setIfInBounds_toArray, List.set_cons_succ, List.set_cons_zero]
    refine reg_one 7 0 #[true, true, true, true, true, true, true, true] (by kernel_rfl) rfl (by rfl) (by kernel_rfl) (fun K hK => ?_)
    go_simp
    refine ST.out.mono ?_
    rintro e y1 ⟨rfl, tw1, sm1⟩
    refine hK _ _ (Till.mk' ((sm1.cell (x := q) (o := 2) (by simp)).trans q2d) trivial) ?_
    clear hK K
    try simp only [List.setIfInBounds_toArray, List.set_cons_succ, List.set_cons_zero]
    refine reg_done (by kernel_rfl) ?_ _
    have q2e := (sm1.cell (x := q) (o := 2) (by simp)).trans q2d
    have RS := Lib.hid (TRStop tw1 (N % 6 - 1) (by omega))
    have H4 := Lib.hid (H3.out.trans (sm1.sub (fun x hx => List.mem_cons_of_mem _ hx)))
    clear sm1 tw1 ST
    go_wp2_with fail
    refine (W6.out y1).mono ?_
    rintro e ww ⟨rfl, rfl⟩
    go_wp2_with fail
    refine RS.out.mono ?_
    rintro e y2 ⟨rfl, tw2, sm2⟩
    have HF := Lib.hid (And.intro (tw2.sub (Y := X) (fun x hx => List.mem_cons_of_mem _ hx)) (H4.out.trans (sm2.sub (fun x hx => List.mem_cons_of_mem _ hx))))
    clear tw2 sm2 RS
    go_wp2_with fail
    go_ret
    exact ⟨rfl, st.stop (N % 6 - 1), HF.out.1, HF.out.2, H0.out.2.2.2.1, Nat.le_refl _, by show 0 ≤ max (N % 6 - 1) 0 ∧ max (N % 6 - 1) 0 ≤ 9223372036854775807; omega⟩
  · rw [hk]
    have q4 := H2.out.2.2.cell 4
    simp only [AC, List.getElem?_cons_zero, List.getElem?_cons_succ] at q4
    have hps := H2.out.1.argD H0.out.2.1
    rw [← HV.out.2] at hps
    obtain ⟨v5, W5, hr5, o5, t5⟩ := run_fresh_ints W2 hps (Nat.le_refl _) (by omega) 22
    obtain ⟨A5, c5, rfl⟩ := own_formV o5
    obtain ⟨X5, tw5, hX5, hsub⟩ := H2.out.1.hold t5 (v := .slice A5 ps.length c5) (fun y hy => o5.lt y hy)
    have CR := Lib.hid (TCrash tw5 A5 c5 ps H0.out.2.2.2.1 H0.out.2.2.2.2 (Sl.of_own o5) H0.out.2.2.1 (fun _ y hy => .inl (hX5 y hy)))
    have q4a := cellW ((Turns.refl [] W2).alloc (.cells #[] 3)) q4
    have q4b := cellW t5 q4
    have H5 := Lib.hid (And.intro hsub (H2.out.2.1.trans ((H2.out.1.same t5).sub (fun x hx => List.mem_cons_of_mem _ hx))))
    clear hps o5 tw5 hX5 hsub t5 W6 W70 hk
    go_wp2_with (at_builtin; refine wpList_append_at rfl (.tmp 75) (.tmp 77) rfl hr5 rfl rfl ?_)
    refine CR.out.mono ?_
    rintro e y1 ⟨rfl, tw1, sm1⟩
    have q4c := (sm1.cell (x := q) (o := 4) (H5.out.1 q (by simp))).trans q4b
    have RC := TRCrash tw1 AP cP ps H0.out.2.2.2.1 H0.out.2.2.2.2 (tw1.argD H0.out.2.1) H0.out.2.2.1 (fun hne y hy => .inr (sl_low H0.out.2.1 (by simpa using hne) y hy))
    rw [← HV.out.2] at RC
    replace RC := Lib.hid RC
    have H6 := Lib.hid (H5.out.2.trans (sm1.sub (fun x hx => H5.out.1 x (List.mem_cons_of_mem _ hx))))
    clear sm1 tw1 CR hr5
    go_wp2_with fail
    refine RC.out.mono ?_
    rintro e y2 ⟨rfl, tw2, sm2⟩
    have HF := Lib.hid (And.intro (tw2.sub (Y := X) (fun x hx => H5.out.1 x (List.mem_cons_of_mem _ hx))) (H6.out.trans (sm2.sub (fun x hx => H5.out.1 x (List.mem_cons_of_mem _ hx)))))
    clear tw2 sm2 RC
    go_wp2_with fail
    go_ret
    exact ⟨rfl, st.crash ps, HF.out.1, HF.out.2, fun x hx => (by simp [DS.crash] at hx), Nat.zero_le _, by show (0 : Int) ≤ 0 ∧ (0 : Int) ≤ 9223372036854775807; omega⟩
  · rw [hk]
    have hw70 : IntKind.i64.wrap (N % 70 - 2) = N % 70 - 2 := by rw [IntKind.wrap_i64]; omega
    have h70 : 0 ≤ N % 70 ∧ N % 70 < 70 := by omega
    go_wp2_with fail
    refine (W70.out W2).mono ?_
    rintro e ww ⟨rfl, rfl⟩
    obtain ⟨W3, hW3⟩ : ∃ W3, W3 = W2.drew := ⟨_, rfl⟩
    have t3 : Turns [] W2 W3 := by rw [hW3]; exact (Turns.refl _ _).drew
    have tw3 := H2.out.1.turn t3 (by simp)
    have b3 := H2.out.2.2.turns t3 (by simp)
    have q3 := b3.cell 3
    simp only [AC, List.getElem?_cons_zero, List.getElem?_cons_succ] at q3
    have hbs := tw3.argD H0.out.1
    rw [← HV.out.1] at hbs
    obtain ⟨v5, W5, hr5, o5, t5⟩ := run_fresh_copy W3 hbs (Nat.le_refl _) (by omega) 34
    obtain ⟨A5, c5, rfl⟩ := own_formV o5
    obtain ⟨X5, tw5, hX5, hsub⟩ := tw3.hold t5 (v := .slice A5 bs.length c5) (fun y hy => o5.lt y hy)
    obtain ⟨a, ha⟩ : ∃ a, a = N % 70 - 2 := ⟨_, rfl⟩
    have TM := Lib.hid (TTamper tw5 z a A5 c5 bs (Sl.of_own o5) (fun y hy => .inl (hX5 y hy)))
    have q3a := cellW ((Turns.refl [] W3).alloc (.cells #[] 5)) q3
    have q3b := cellW t5 q3
    have H5 := Lib.hid (And.intro hsub (H2.out.2.1.trans ((((H2.out.1.same t3).sub (fun x hx => List.mem_cons_of_mem _ hx))).trans ((tw3.same t5).sub (fun x hx => List.mem_cons_of_mem _ hx)))))
    have HW3 := Lib.hid hW3
    have HA := Lib.hid ha
    obtain ⟨tb, htb⟩ : ∃ tb, tb = tampB 6 z a bs.length := ⟨_, rfl⟩
    rw [← htb] at TM
    have TM := Lib.hid TM.out
    have HTB := Lib.hid htb
    clear hbs o5 tw5 hX5 hsub t5 t3 tw3 b3 W6 hk hW3 htb
    go_upto_region 22 with fail
    rw [← HA.out]
    clear hw70 h70 ha W70
    refine reg_begin (fun W => W.cell? ⟨q, 3, none⟩ = some vB) (fun _ => True) 16 16 #[false, false, false, false, false, false, false, false, false, false, false, false, false, false, false, false] (by kernel_rfl) (by kernel_rfl) (by kernel_rfl) ?_
    rw [← HW3.out]
    refine reg_take 0 90 15 #[true, false, false, false, false, false, false, false, false, false, false, false, false, false, false, false] (by rfl) (v := ?_) rfl rfl (by kernel_rfl) (by kernel_rfl) (by kernel_rfl) (by kernel_rfl) (fun _ _ _ h => h) (by rfl) ?_ (Till.mk' q3 trivial) ?_
    rotate_left
    · intro W hS; go_simp; all_goals with_reducible rfl
    try simp only [List.setIfInBounds_toArray, List.set_cons_succ, List.set_cons_zero]
    refine reg_take 1 91 14 #[true, true, false, false, false, false, false, false, false, false, false, false, false, false, false, false] (by rfl) (v := ?_) rfl rfl (by kernel_rfl) (by kernel_rfl) (by kernel_rfl) (by kernel_rfl) (fun _ _ _ h => h) (by rfl) ?_ (Till.mk' q3 trivial) ?_
    rotate_left
    · intro W hS; go_simp; all_goals with_reducible rfl
    try simp only [List.setIfInBounds_toArray, List.set_cons_succ, List.set_cons_zero]
    refine reg_take 2 92 13 #[true, true, true, false, false, false, false, false, false, false, false, false, false, false, false, false] (by rfl) (v := ?_) rfl rfl (by kernel_rfl) (by kernel_rfl) (by kernel_rfl) (by kernel_rfl) (fun _ _ _ h => h) (by rfl) ?_ (Till.mk' q3 trivial) ?_
    rotate_left
    · intro W hS; go_simp; all_goals with_reducible rfl
    try simp only [List.setIfInBounds_toArray, List.set_cons_succ, List.set_cons_zero]
    refine reg_take 4 94 12 #[true, true, true, false, true, false, false, false, false, false, false, false, false, false, false, false] (by rfl) (v := ?_) rfl rfl (by kernel_rfl) (by kernel_rfl) (by kernel_rfl) (by kernel_rfl) (fun _ _ _ h => h) (by rfl) ?_ (Till.mk' q3 trivial) ?_
    rotate_left
    · intro W hS; go_simp; all_goals with_reducible rfl
    try simp only [List.setIfInBounds_toArray, List.set_cons_succ, List.set_cons_zero]
    refine reg_take 5 95 11 #[true, true, true, false, true, true, false, false, false, false, false, false, false, false, false, false] (by rfl) (v := ?_) rfl rfl (by kernel_rfl) (by kernel_rfl) (by kernel_rfl) (by kernel_rfl) (fun _ _ _ h => h) (by rfl) ?_ (Till.mk' q3 trivial) ?_
    rotate_left
    · intro W hS; have c9 : W.cell? ⟨q, 3, none⟩ = some vB := hS; go_simp; all_goals with_reducible rfl
    try simp only [List.setIfInBounds_toArray, List.set_cons_succ, List.set_cons_zero]
    refine reg_take 8 98 10 #[true, true, true, false, true, true, false, false, true, false, false, false, false, false, false, false] (by rfl) (v := ?_) rfl rfl (by kernel_rfl) (by kernel_rfl) (by kernel_rfl) (by kernel_rfl) (fun _ _ _ h => h) (by rfl) ?_ (Till.mk' q3 trivial) ?_
    rotate_left
    · intro W hS; go_simp; all_goals with_reducible rfl
    try simp only [List.setIfInBounds_toArray, List.set_cons_succ, List.set_cons_zero]
    refine reg_take 9 99 9 #[true, true, true, false, true, true, false, false, true, true, false, false, false, false, false, false] (by rfl) (v := ?_) rfl rfl (by kernel_rfl) (by kernel_rfl) (by kernel_rfl) (by kernel_rfl) (fun _ _ _ h => h) (by rfl) ?_ (Till.mk' q3 trivial) ?_
    rotate_left
    · intro W hS; go_simp; all_goals with_reducible rfl
    try simp only [List.setIfInBounds_toArray, List.set_cons_succ, List.set_cons_zero]
    refine reg_take 10 100 8 #[true, true, true, false, true, true, false, false, true, true, true, false, false, false, false, false] (by rfl) (v := ?_) rfl rfl (by kernel_rfl) (by kernel_rfl) (by kernel_rfl) (by kernel_rfl) (fun _ _ _ h => h) (by rfl) ?_ (Till.mk' q3 trivial) ?_
    rotate_left
    · intro W hS; go_simp; all_goals with_reducible rfl
    try simp only [List.setIfInBounds_toArray, List.set_cons_succ, List.set_cons_zero]
    refine reg_take 11 101 7 #[true, true, true, false, true, true, false, false, true, true, true, true, false, false, false, false] (by rfl) (v := ?_) rfl rfl (by kernel_rfl) (by kernel_rfl) (by kernel_rfl) (by kernel_rfl) (fun _ _ _ h => h) (by rfl) ?_ (Till.mk' q3 trivial) ?_
    rotate_left
    · intro W hS; go_simp; all_goals with_reducible rfl
    try simp only [List.setIfInBounds_toArray, List.set_cons_succ, List.set_cons_zero]
    refine reg_take 12 102 6 #[true, true, true, false, true, true, false, false, true, true, true, true, true, false, false, false] (by rfl) (v := ?_) rfl rfl (by kernel_rfl) (by kernel_rfl) (by kernel_rfl) (by kernel_rfl) (fun _ _ _ h => h) (by rfl) ?_ (Till.mk' q3 trivial) ?_
    rotate_left
    · intro W hS; have c9 : W.cell? ⟨q, 3, none⟩ = some vB := hS; go_simp; all_goals with_reducible rfl
    try simp only [List.setIfInBounds_toArray, List.set_cons_succ, List.set_cons_zero]
    refine reg_one 3 5 #[true, true, true, true, true, true, false, false, true, true, true, true, true, false, false, false] (by kernel_rfl) rfl (by rfl) (by kernel_rfl) (fun K hK => ?_)
    go_simp
    refine hK _ _ (Till.mk' q3a trivial) ?_
    clear hK K
    try simp only [List.setIfInBounds_toArray, List.set_cons_succ, List.set_cons_zero]
    refine reg_one 6 4 #[true, true, true, true, true, true, true, false, true, true, true, true, true, false, false, false] (by kernel_rfl) rfl (by rfl) (by kernel_rfl) (fun K hK => ?_)
    refine wp_append_run (vs := .slice (some ⟨W3.heap.size, 0, none⟩) 0 0) (vx := vB) (R := fun v w9 => .slice A5 bs.length c5 = v ∧ W5 = w9) _ (.tmp 93) (.tmp 95) rfl (by rfl) (by rfl) ⟨_, _, hr5, rfl, rfl⟩ ?_
    rintro _ _ ⟨rfl, rfl⟩
    refine hK _ _ (Till.mk' q3b trivial) ?_
    clear hK K
    try simp only [List.setIfInBounds_toArray, List.set_cons_succ, List.set_cons_zero]
    refine reg_one 7 3 #[true, true, true, true, true, true, true, true, true, true, true, true, true, false, false, false] (by kernel_rfl) rfl (by rfl) (by kernel_rfl) (fun K hK => ?_)
    go_simp
    refine TM.out.mono ?_
    rintro e y1 ⟨rfl, tw1, sm1⟩
    have q3c := (sm1.cell (x := q) (o := 3) (H5.out.1 q (by simp))).trans q3b
    have H6 := H5.out.2.trans (sm1.sub (fun x hx => H5.out.1 x (List.mem_cons_of_mem _ hx)))
    refine hK _ _ (Till.mk' q3c trivial) ?_
    clear hK K
    try simp only [List.setIfInBounds_toArray, List.set_cons_succ, List.set_cons_zero]
    refine reg_one 13 2 #[true, true, true, true, true, true, true, true, true, true, true, true, true, true, false, false] (by kernel_rfl) rfl (by rfl) (by kernel_rfl) (fun K hK => ?_)
    go_simp
    have RT := TRTamper tw1 z a AB cB bs (tw1.argD H0.out.1) (fun hne y hy => .inr (sl_low H0.out.1 (by simpa [bvs] using hne) y hy))
    rw [← HV.out.1, ← HTB.out] at RT
    refine RT.mono ?_
    rintro e y2 ⟨rfl, tw2, sm2⟩
    have q3d := (sm2.cell (x := q) (o := 3) (H5.out.1 q (by simp))).trans q3c
    refine hK _ _ (Till.mk' q3d trivial) ?_
    clear hK K
    try simp only [List.setIfInBounds_toArray, List.set_cons_succ, List.set_cons_zero]
    refine reg_take 14 104 1 #[true, true, true, true, true, true, true, true, true, true, true, true, true, true, true, false] (by rfl) (v := ?_) rfl rfl (by kernel_rfl) (by kernel_rfl) (by kernel_rfl) (by kernel_rfl) (fun _ _ _ h => h) (by rfl) ?_ (Till.mk' q3d trivial) ?_
    rotate_left
    · intro W hS; go_simp; all_goals with_reducible rfl
    try simp only [List.setIfInBounds_toArray, List.set_cons_succ, List.set_cons_zero]
    refine reg_take 15 6 0 #[true, true, true, true, true, true, true, true, true, true, true, true, true, true, true, true] (by rfl) (v := ?_) rfl rfl (by kernel_rfl) (by kernel_rfl) (by kernel_rfl) (by kernel_rfl) (fun _ _ _ h => h) (by rfl) ?_ (Till.mk' q3d trivial) ?_
    rotate_left
    · intro W hS; go_simp; all_goals with_reducible rfl
    try simp only [List.setIfInBounds_toArray, List.set_cons_succ, List.set_cons_zero]
    refine reg_done (by kernel_rfl) ?_ _
    have HF := Lib.hid (And.intro (tw2.sub (Y := X) (fun x hx => H5.out.1 x (List.mem_cons_of_mem _ hx))) (H6.trans (sm2.sub (fun x hx => H5.out.1 x (List.mem_cons_of_mem _ hx)))))
    clear tw2 sm2 H6 TM
    go_wp2_with fail
    go_ret
    refine ⟨by cases tb <;> rfl, st.tamp 6 z a bs, HF.out.1, HF.out.2, ?_, ?_, ?_⟩
    · unfold DS.tamp; split
      · exact H0.out.2.2.2.1
      · exact H0.out.2.2.2.1
    · unfold DS.tamp; split <;> exact Nat.le_refl _
    · unfold DS.tamp; split
      · exact HLF.out
      · exact HLF.out
end Go.Proofs.Ytdhbaepmbgoobaa
namespace Go.Proofs.Ytdhbaepmbgoobaa
open Go.RowKit Go.WideShapes
set_option linter.unusedVariables false
set_option linter.unusedSimpArgs false
set_option linter.unnecessarySimpa false

structure ActA where
  kd : Int
  P : Int
  N : Int
  AB : Option Addr
  cB : Nat
  bs : List UInt8
  AP : Option Addr
  cP : Nat
  ps : List Int
def ActA.cells (a : ActA) : List Value := AC a.kd a.P a.N (.slice a.AB a.bs.length a.cB) (.slice a.AP a.ps.length a.cP)
def ActA.good (w : World) (a : ActA) : Prop := (-9223372036854775808 ≤ a.kd ∧ a.kd ≤ 9223372036854775807) ∧ (-9223372036854775808 ≤ a.P ∧ a.P ≤ 9223372036854775807) ∧ (-9223372036854775808 ≤ a.N ∧ a.N ≤ 9223372036854775807) ∧
  Sl w w.heap.size 1 (.slice a.AB a.bs.length a.cB) a.bs.length (bvs a.bs) ∧ Sl w w.heap.size 1 (.slice a.AP a.ps.length a.cP) a.ps.length (a.ps.map (Value.int .i64)) ∧ ∀ z ∈ a.ps, -9223372036854775808 ≤ z ∧ z ≤ 9223372036854775807
section
variable {H : Type} {enc : TypeId × Value → H} {w : World}
theorem u8_of_wf {k : Int} (h : (Lit.int .u8 k).wf = true) : ∃ b : UInt8, Value.int .u8 k = u8v b := by
  obtain ⟨b, rfl⟩ := byte_of h
  exact ⟨b, rfl⟩
theorem bytes_of_trod {held : Bool} {fuel : Nat} {cs : List Value} {x : DataW H × List MemPlace} (h : DataW.trod enc Try.prog w 0 (fun _ => true) held fuel 34 cs = some x) :
    ∃ A c, ∃ bs : List UInt8, cs = [.slice A bs.length c] ∧ Sl w w.heap.size 1 (.slice A bs.length c) bs.length (bvs bs) := by
  obtain ⟨A, n, c, css, e1, hcl, hel, hsl⟩ := slice_of_trod Try.underlying34 (show Try.prog.cellsOf 5 = 1 by kernel_rfl) (by omega) h
  obtain ⟨bs, hn, hcs, _⟩ := choose_all (fun b : UInt8 => [u8v b]) (fun _ => True) hcl (fun j hj => by
    obtain ⟨fu, y, _, hy⟩ := hel j hj
    obtain ⟨k, hk, _, hw⟩ := DataW.trod_int Try.underlying5 hy
    obtain ⟨b, hb⟩ := u8_of_wf hw
    exact ⟨b, by rw [hk, hb], trivial⟩)
  subst hn
  refine ⟨A, c, bs, e1, ?_⟩
  rw [hcs] at hsl
  have e : ∀ l : List UInt8, (l.map fun b => [u8v b]).flatten = bvs l := by
    intro l
    induction l with
    | nil => rfl
    | cons b l ih => rw [List.map_cons, List.flatten_cons, ih]; rfl
  rw [e] at hsl
  exact hsl
theorem ints_of_trod {held : Bool} {fuel : Nat} {cs : List Value} {x : DataW H × List MemPlace} (h : DataW.trod enc Try.prog w 0 (fun _ => true) held fuel 22 cs = some x) :
    ∃ A c, ∃ l : List Int, cs = [.slice A l.length c] ∧ Sl w w.heap.size 1 (.slice A l.length c) l.length (l.map (Value.int .i64)) ∧ ∀ z ∈ l, -9223372036854775808 ≤ z ∧ z ≤ 9223372036854775807 := by
  obtain ⟨A, n, c, css, e1, hcl, hel, hsl⟩ := slice_of_trod Try.underlying22 (show Try.prog.cellsOf 3 = 1 by kernel_rfl) (by omega) h
  obtain ⟨l, hn, hcs, hg⟩ := choose_all (fun z : Int => [Value.int .i64 z]) (fun z => -9223372036854775808 ≤ z ∧ z ≤ 9223372036854775807) hcl (fun j hj => by
    obtain ⟨fu, y, _, hy⟩ := hel j hj
    obtain ⟨k, hk, _, hw⟩ := DataW.trod_int Try.underlying3 hy
    exact ⟨k, hk, bounds_i64 hw⟩)
  subst hn
  refine ⟨A, c, l, e1, ?_, hg⟩
  rw [hcs] at hsl
  have e : ∀ l : List Int, (l.map fun z => [Value.int .i64 z]).flatten = l.map (Value.int .i64) := by
    intro l
    induction l with
    | nil => rfl
    | cons b l ih => rw [List.map_cons, List.flatten_cons, ih]; rfl
  rw [e] at hsl
  exact hsl
set_option maxRecDepth 100000 in
theorem act_of_trod {held : Bool} {fuel : Nat} {cs : List Value} {x : DataW H × List MemPlace} (h : DataW.trod enc Try.prog w 0 (fun _ => true) held fuel 76 cs = some x) :
    ∃ a : ActA, cs = a.cells ∧ a.good w := by
  obtain ⟨xs, n, _, _, hl, hlen, hf⟩ := DataW.trod_struct Try.underlying76 h
  rw [show Try.prog.cellsOf 76 = 5 by kernel_rfl] at hl
  have f0 := hf 0 _ (by simp only [List.getElem?_toArray, List.getElem?_cons_succ, List.getElem?_cons_zero]; rfl)
  have f1 := hf 1 _ (by simp only [List.getElem?_toArray, List.getElem?_cons_succ, List.getElem?_cons_zero]; rfl)
  have f2 := hf 2 _ (by simp only [List.getElem?_toArray, List.getElem?_cons_succ, List.getElem?_cons_zero]; rfl)
  have f3 := hf 3 _ (by simp only [List.getElem?_toArray, List.getElem?_cons_succ, List.getElem?_cons_zero]; rfl)
  have f4 := hf 4 _ (by simp only [List.getElem?_toArray, List.getElem?_cons_succ, List.getElem?_cons_zero]; rfl)
  rw [show Try.prog.cellsOf 3 = 1 by kernel_rfl] at f0 f1 f2
  rw [show Try.prog.cellsOf 34 = 1 by kernel_rfl] at f3
  rw [show Try.prog.cellsOf 22 = 1 by kernel_rfl] at f4
  match xs, hlen, cs, hl with
  | [x0, x1, x2, x3, x4], _, [c0, c1, c2, c3, c4], _ =>
    obtain ⟨k0, e0, _, h0⟩ := DataW.trod_int Try.underlying3 f0
    obtain ⟨k1, e1, _, h1⟩ := DataW.trod_int Try.underlying3 f1
    obtain ⟨k2, e2, _, h2⟩ := DataW.trod_int Try.underlying3 f2
    obtain ⟨A3, c3', bs, e3, s3⟩ := bytes_of_trod f3
    obtain ⟨A4, c4', ps, e4, s4, h4⟩ := ints_of_trod f4
    simp at e0 e1 e2 e3 e4
    subst e0 e1 e2 e3 e4
    exact ⟨⟨k0, k1, k2, A3, c3', bs, A4, c4', ps⟩, rfl, bounds_i64 h0, bounds_i64 h1, bounds_i64 h2, s3, s4, h4⟩
/-- A slice of acts that came in. -/
def ActsArg (w : World) (v : Value) (l : List ActA) : Prop := ∃ A c, v = .slice A l.length c ∧ Sl w w.heap.size 5 (.slice A l.length c) l.length (l.map ActA.cells).flatten ∧ ∀ a ∈ l, a.good w
set_option maxRecDepth 100000 in
theorem acts_of_trod {base : Nat} {v : Value} {d : DataW H} {p : List MemPlace} (hval : Value.okWide Try.prog w .any base 70 v) (h : DataW.Trod enc Try.prog w 0 (fun _ => true) true 70 v d p) : ∃ l, ActsArg w v l := by
  obtain ⟨A, len, cap, rfl⟩ := okWide_slice Try.underlying70 hval
  obtain ⟨fuel, hf⟩ := h
  obtain ⟨A', n, c, css, e1, hcl, hel, hsl⟩ := slice_of_trod Try.underlying70 (show Try.prog.cellsOf 76 = 5 by kernel_rfl) (by omega) hf
  simp [Value.cells] at e1
  obtain ⟨rfl, rfl, rfl⟩ := e1
  obtain ⟨l, hn, hcs, hg⟩ := choose_all ActA.cells (ActA.good w) hcl (fun j hj => by
    obtain ⟨fu, y, _, hy⟩ := hel j hj
    exact act_of_trod hy)
  subst hn
  rw [hcs] at hsl
  exact ⟨l, A, cap, rfl, hsl, hg⟩
end
theorem acts_at : ∀ (l : List ActA) (k : Nat) (hk : k < l.length) (j : Nat) (v : Value), l[k].cells[j]? = some v → (l.map ActA.cells).flatten[k * 5 + j]? = some v
  | [], k, hk, _, _, _ => by simp at hk
  | a :: l, 0, hk, j, v, hv => by
    rw [List.map_cons, List.flatten_cons, Nat.zero_mul, Nat.zero_add, List.getElem?_append_left (by simpa using (List.getElem?_eq_some_iff.1 hv).1)]
    exact hv
  | a :: l, k + 1, hk, j, v, hv => by
    have h5 : a.cells.length = 5 := rfl
    rw [List.map_cons, List.flatten_cons, List.getElem?_append_right (by omega), h5, show (k + 1) * 5 + j - 5 = k * 5 + j by omega]
    exact acts_at l k (by simpa using hk) j v hv
/-- Where one of them lies. -/
theorem acts_get {w : World} {A : Option Addr} {c : Nat} {l : List ActA} {B : Nat} (h : Sl w B 5 (.slice A l.length c) l.length (l.map ActA.cells).flatten) {k : Nat} (hk : k < l.length) : ∃ b o, A = some ⟨b, o, none⟩ ∧ b < B ∧ ∀ j v, l[k].cells[j]? = some v → w.cell? ⟨b, o + (k * 5 + j), none⟩ = some v := by
  obtain ⟨_, A', c', he, _, _, _, hrd⟩ := h
  injection he with e1 _ _
  subst e1
  have hne : (l.map ActA.cells).flatten ≠ [] := by
    intro e
    have := acts_at l k hk 0 _ (show l[k].cells[0]? = some (.int .i64 l[k].kd) from rfl)
    rw [e] at this
    simp at this
  obtain ⟨b, o, rfl, hb, hc⟩ := hrd hne
  exact ⟨b, o, rfl, hb, fun j v hv => hc _ _ (acts_at l k hk j v hv)⟩
/-- Acts that are not too much. -/
def ActA.small (a : ActA) : Prop := a.bs.length ≤ 80 ∧ a.ps.length ≤ 40
def FwR (w : World) (l : List ActA) (i : Value) (wr : World) : Prop := ∃ k : Nat, k ≤ l.length ∧ i = .int .i64 k ∧ w = wr ∧ ∀ a ∈ l.take k, a.small
set_option maxHeartbeats 4000000 in
theorem Few_any (w : World) (A : Option Addr) (c : Nat) (l : List ActA) (h : Sl w w.heap.size 5 (.slice A l.length c) l.length (l.map ActA.cells).flatten) (hg : ∀ a ∈ l, a.good w) :
    Calls Try.prog 25 #[.slice A l.length c] w fun e w' => w = w' ∧ ∃ b, e = .returned (.bool b) ∧ (b = true → l.length ≤ 60 ∧ ∀ a ∈ l, a.small) := by
  have hl : l.length ≤ 9223372036854775807 := by
    obtain ⟨_, _, _, ee, h1, h2, _⟩ := h
    injection ee with _ _ e3
    subst e3
    unfold maxLen at h2
    omega
  have H0 := Lib.hid (And.intro h hg)
  clear h hg
  go_enter Try.func25, Try.ntmps25
  go_wp2_with fail
  go_loopw [3] (fun i wr => FwR w l i wr) (fun i _ => l.length - (intOf i).toNat)
  case atStart => exact ⟨0, by omega, rfl, rfl, by simp⟩
  case round =>
    obtain ⟨k, hk, rfl, rfl, hsm⟩ := hrel
    by_cases hlt : k < l.length
    · have hltI : (k : Int) < l.length := by omega
      obtain ⟨b, o, e1, hb, hc⟩ := acts_get H0.out.1 hlt
      subst e1
      have q3 := hc 3 _ (show l[k].cells[3]? = some (.slice l[k].AB l[k].bs.length l[k].cB) from rfl)
      have q4 := hc 4 _ (show l[k].cells[4]? = some (.slice l[k].AP l[k].ps.length l[k].cP) from rfl)
      obtain ⟨a, ha⟩ : ∃ a, a = l[k] := ⟨_, rfl⟩
      have hga := H0.out.2 _ (List.getElem_mem hlt)
      rw [← ha] at q3 q4 hga
      have hb1 : a.bs.length ≤ 9223372036854775807 := by
        obtain ⟨_, _, _, ee, h1, h2, _⟩ := hga.2.2.2.1
        injection ee with _ _ e3
        subst e3
        unfold maxLen at h2
        omega
      have hb2 : a.ps.length ≤ 9223372036854775807 := by
        obtain ⟨_, _, _, ee, h1, h2, _⟩ := hga.2.2.2.2.1
        injection ee with _ _ e3
        subst e3
        unfold maxLen at h2
        omega
      have HT := Lib.hid (show l.take (k + 1) = l.take k ++ [a] by rw [List.take_add_one, List.getElem?_eq_getElem hlt, ha]; rfl)
      have HS := Lib.hid hsm
      rw [show o + (k * 5 + 3) = o + k * 5 + 3 by omega] at q3
      rw [show o + (k * 5 + 4) = o + k * 5 + 4 by omega] at q4
      clear hc hga ha hsm
      by_cases h1 : 80 < a.bs.length
      · have h1I : (80 : Int) < a.bs.length := by omega
        go_wp2_with fail
        go_ret
        exact ⟨rfl, false, rfl, fun h => (by cases h)⟩
      · have h1I : (a.bs.length : Int) ≤ 80 := by omega
        by_cases h2 : 40 < a.ps.length
        · have h2I : (40 : Int) < a.ps.length := by omega
          go_wp2_with fail
          go_ret
          exact ⟨rfl, false, rfl, fun h => (by cases h)⟩
        · have h2I : (a.ps.length : Int) ≤ 40 := by omega
          go_wp2_with fail
          go_roundw
          case rel => exact ⟨k + 1, by omega, by go_num, rfl, by rw [HT.out]; intro x hx; rw [List.mem_append] at hx; rcases hx with hx | hx; exact HS.out x hx; simp at hx; subst hx; exact ⟨by omega, by omega⟩⟩
          case measure => (simp [intOf] <;> omega)
    · obtain rfl : k = l.length := by omega
      rw [List.take_length] at hsm
      have HS := Lib.hid hsm
      clear hsm
      go_wp2_with fail
      go_ret
      refine ⟨rfl, _, rfl, fun h => ⟨?_, HS.out⟩⟩
      simp at h
      omega
end Go.Proofs.Ytdhbaepmbgoobaa
