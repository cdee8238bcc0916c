/- Steps as arguments. -/
import Derived.Test.YtoahnhphfabajaaGreatNdk
namespace Go.Proofs.YtoahnhphfabajaaGreat
open Go.RowKit
set_option linter.unusedVariables false
set_option maxRecDepth 10000
set_option linter.unusedSimpArgs false
set_option linter.unnecessarySimpa false

theorem mapM_cells {w : World} {b off : Nat} : ∀ (n k : Nat) (cs : List Value), ((List.range' k n).mapM fun i => w.cell? ⟨b, off + i, none⟩) = some cs → cs.length = n ∧ ∀ j u, cs[j]? = some u → w.cell? ⟨b, off + (k + j), none⟩ = some u
  | 0, k, cs, h => by
    simp at h
    subst h
    exact ⟨rfl, fun j u hu => by simp at hu⟩
  | n + 1, k, cs, h => by
    rw [List.range'_succ, List.mapM_cons] at h
    cases hc : w.cell? ⟨b, off + k, none⟩ with
    | none => rw [hc] at h; simp at h
    | some c =>
      rw [hc] at h
      cases hr : ((List.range' (k + 1) n).mapM fun i => w.cell? ⟨b, off + i, none⟩) with
      | none => rw [hr] at h; simp at h
      | some cs' =>
        rw [hr] at h
        simp at h
        subst h
        obtain ⟨h1, h2⟩ := mapM_cells n (k + 1) cs' hr
        refine ⟨by simp [h1], fun j u hu => ?_⟩
        cases j with
        | zero => simp at hu; subst hu; exact hc
        | succ j =>
          simp at hu
          have := h2 j u hu
          rwa [show k + 1 + j = k + (j + 1) by omega] at this
theorem cells_lit {w : World} {base b off n : Nat} {cs : List Value} (h : w.cells? base ⟨b, off, none⟩ n = some cs) : cs.length = n ∧ ∀ j u, cs[j]? = some u → w.cell? ⟨b, off + j, none⟩ = some u := by
  unfold World.cells? at h
  split at h
  · have e : (fun i => w.cell? ((⟨b, off, none⟩ : Addr).add i)) = fun i => w.cell? ⟨b, off + i, none⟩ := by
      funext i; rw [Addr.add_lit]
    rw [e, List.range_eq_range'] at h
    obtain ⟨h1, h2⟩ := mapM_cells n 0 cs h
    exact ⟨h1, fun j u hu => by have := h2 j u hu; rwa [Nat.zero_add] at this⟩
  · cases h
theorem flatten_at (size : Nat) : ∀ (css : List (List Value)) (k j : Nat), (∀ cs ∈ css, cs.length = size) → j < size → k < css.length → css.flatten[k * size + j]? = (css.getD k [])[j]?
  | [], k, j, _, _, hk => by simp at hk
  | c :: css, 0, j, hl, hj, _ => by
    have := hl c (by simp)
    rw [Nat.zero_mul, Nat.zero_add, List.flatten_cons, List.getElem?_append_left (by omega)]; rfl
  | c :: css, k + 1, j, hl, hj, hk => by
    have := hl c (by simp)
    rw [List.flatten_cons, List.getElem?_append_right (by rw [this, Nat.succ_mul]; omega), this, Nat.succ_mul, show k * size + size + j - size = k * size + j by omega]
    exact flatten_at size css k j (fun cs h => hl cs (by simp [h])) hj (by simpa using hk)
theorem flatten_len (size : Nat) (css : List (List Value)) (h : ∀ cs ∈ css, cs.length = size) : css.flatten.length = css.length * size := by
  induction css with
  | nil => simp
  | cons c css ih => rw [List.flatten_cons, List.length_append, ih (fun cs hc => h cs (by simp [hc])), h c (by simp), List.length_cons, Nat.succ_mul]; omega
section
variable {H : Type} {enc : TypeId × Value → H} {P : Program} {w : World} {held : Bool}
/-- A slice that came in: its elements' cells, each of which reads. -/
theorem slice_of_trod {t e : TypeId} {size fuel : Nat} {cs : List Value} {x : DataW H × List MemPlace} (ht : P.underlying t = some (.slice e)) (hc : P.cellsOf e = size) (hsz : 0 < size)
    (h : DataW.trod enc P w 0 (fun _ => true) held fuel t cs = some x) :
    ∃ A n c, ∃ css : List (List Value), cs = [.slice A n c] ∧ css.length = n ∧ (∀ k, k < n → ∃ fu y, (css.getD k []).length = size ∧ DataW.trod enc P w 0 (fun _ => true) held fu e (css.getD k []) = some y) ∧ Sl w w.heap.size size (.slice A n c) n css.flatten := by
  rcases DataW.trod_slice ht h with ⟨rfl, _⟩ | ⟨⟨b, off, spot⟩, len, cap, elems, rest, n, _, rfl, _, _, hl, hm, hlen, hel, _, _⟩
  · exact ⟨none, 0, 0, [], rfl, rfl, fun k hk => by omega, by simpa using Sl.nil⟩
  · subst hc
    have key : ∀ i, i < len → ∃ cs y, w.cells? 0 ((⟨b, off, spot⟩ : Addr).add (i * P.cellsOf e)) (P.cellsOf e) = some cs ∧ DataW.trod enc P w 0 (fun _ => true) held n e cs = some y := by
      intro i hi
      have h1 := hel i hi
      rw [List.getElem?_eq_getElem (by omega), Option.bind_eq_some_iff] at h1
      obtain ⟨cs, h2, h3⟩ := h1
      exact ⟨cs, _, h2, h3⟩
    by_cases h0 : len = 0
    · subst h0
      exact ⟨_, 0, cap, [], rfl, rfl, fun k hk => by omega, ⟨by simp, _, _, rfl, hl, hm, (fun h => by cases h), fun hn => absurd rfl hn⟩⟩
    · have hs : spot = none := by
        obtain ⟨cs, y, h2, _⟩ := key 0 (by omega)
        unfold World.cells? at h2
        split at h2
        · obtain ⟨m, hm'⟩ : ∃ m, P.cellsOf e = m + 1 := ⟨P.cellsOf e - 1, by omega⟩
          rw [hm', List.range_succ_eq_map, List.mapM_cons] at h2
          cases hc0 : w.cell? (((⟨b, off, spot⟩ : Addr).add (0 * (m + 1))).add 0) with
          | none => rw [hc0] at h2; simp at h2
          | some c =>
            rw [Nat.zero_mul] at hc0
            simpa [Addr.add] using World.cell?_spot hc0
        · cases h2
      subst hs
      obtain ⟨f, hf⟩ : ∃ f : Nat → List Value, ∀ i, i < len → ∃ y, w.cells? 0 ((⟨b, off, none⟩ : Addr).add (i * P.cellsOf e)) (P.cellsOf e) = some (f i) ∧ DataW.trod enc P w 0 (fun _ => true) held n e (f i) = some y :=
        ⟨fun i => if hi : i < len then (key i hi).choose else [], fun i hi => by
          simp only [hi, dif_pos]
          exact (key i hi).choose_spec⟩
      have hfl : ∀ i, i < len → (f i).length = P.cellsOf e ∧ ∀ j u, (f i)[j]? = some u → w.cell? ⟨b, off + i * P.cellsOf e + j, none⟩ = some u := by
        intro i hi
        obtain ⟨y, h1, _⟩ := hf i hi
        rw [Addr.add_lit] at h1
        exact cells_lit h1
      have hgd : ∀ k, k < len → ((List.range len).map f).getD k [] = f k := fun k hk => by simp [List.getD, hk]
      have hall : ∀ cs ∈ (List.range len).map f, cs.length = P.cellsOf e := by
        intro cs hcs
        simp only [List.mem_map, List.mem_range] at hcs
        obtain ⟨i, hi, rfl⟩ := hcs
        exact (hfl i hi).1
      have hfl2 := flatten_len (P.cellsOf e) _ hall
      simp only [List.length_map, List.length_range] at hfl2
      refine ⟨_, len, cap, (List.range len).map f, rfl, by simp, fun k hk => ?_, ⟨hfl2, _, _, rfl, hl, hm, (fun h => by cases h), fun _ => ⟨b, off, rfl, ?_, fun j u hu => ?_⟩⟩⟩
      · rw [hgd k hk]
        obtain ⟨y, _, h3⟩ := hf k hk
        exact ⟨n, y, (hfl k hk).1, h3⟩
      · obtain ⟨h1, h2⟩ := hfl 0 (by omega)
        exact World.block_lt_of_cell? w _ (h2 0 _ (List.getElem?_eq_getElem (by omega)))
      · have hj : j < len * P.cellsOf e := by
          have := (List.getElem?_eq_some_iff.1 hu).1
          omega
        have hq : j / P.cellsOf e < len := by rw [Nat.div_lt_iff_lt_mul hsz]; exact hj
        have hr : j % P.cellsOf e < P.cellsOf e := Nat.mod_lt _ hsz
        have e1 : j = j / P.cellsOf e * P.cellsOf e + j % P.cellsOf e := by rw [Nat.mul_comm]; exact (Nat.div_add_mod j (P.cellsOf e)).symm
        rw [e1, flatten_at (P.cellsOf e) _ _ _ hall hr (by simpa using hq), hgd _ hq] at hu
        have := (hfl _ hq).2 _ u hu
        rw [Nat.add_assoc, ← e1] at this
        exact this
/-- Where every element's cells are those of some datum: the data. -/
theorem choose_all {α : Type} {n : Nat} {css : List (List Value)} (cells : α → List Value) (good : α → Prop) (hn : css.length = n) (h : ∀ k, k < n → ∃ a, css.getD k [] = cells a ∧ good a) :
    ∃ l : List α, l.length = n ∧ css = l.map cells ∧ ∀ a ∈ l, good a := by
  subst hn
  induction css with
  | nil => exact ⟨[], rfl, rfl, by simp⟩
  | cons c css ih =>
    obtain ⟨a, ha, ga⟩ := h 0 (by simp)
    obtain ⟨l, hl, e, g⟩ := ih (fun k hk => by have := h (k + 1) (by simp; omega); simpa using this)
    refine ⟨a :: l, by simp [hl], ?_, fun b hb => ?_⟩
    · have : c = cells a := by simpa using ha
      rw [this, e]; rfl
    · simp at hb
      rcases hb with rfl | hb
      · exact ga
      · exact g b hb
end
open Go.WideShapes
section
variable {H : Type} {enc : TypeId × Value → H} {w : World}
theorem csz_str : Tryz.prog.cellsOf 9 = 1 := by kernel_rfl
theorem csz_int : Tryz.prog.cellsOf 3 = 1 := by kernel_rfl
theorem csz_val : Tryz.prog.cellsOf 109 = 3 := by kernel_rfl
theorem vcells_of_trod {held : Bool} {fuel : Nat} {cs : List Value} {x : DataW H × List MemPlace} (h : DataW.trod enc Tryz.prog w 0 (fun _ => true) held fuel 109 cs = some x) :
    ∃ c : Val, cs = c.cells ∧ c.fits := by
  obtain ⟨xs, n, _, _, hl, hlen, hf⟩ := DataW.trod_struct Tryz.underlying109 h
  rw [csz_val] at hl
  have f0 := hf 0 _ (by simp only [List.getElem?_toArray, List.getElem?_cons_succ, List.getElem?_cons_zero]; rfl)
  have f1 := hf 1 _ (by simp only [List.getElem?_toArray, List.getElem?_cons_succ, List.getElem?_cons_zero]; rfl)
  have f2 := hf 2 _ (by simp only [List.getElem?_toArray, List.getElem?_cons_succ, List.getElem?_cons_zero]; rfl)
  rw [csz_int] at f0
  rw [csz_int] at f1
  rw [csz_str] at f2
  match xs, hlen, cs, hl with
  | [x0, x1, x2], _, [c0, c1, c2], _ =>
    obtain ⟨k, e0, _, hk⟩ := DataW.trod_int Tryz.underlying3 f0
    obtain ⟨m, e1, _, hm⟩ := DataW.trod_int Tryz.underlying3 f1
    obtain ⟨s, e2, _, hs⟩ := DataW.trod_string Tryz.underlying9 f2
    simp at e0 e1 e2
    subst e0 e1 e2
    exact ⟨⟨k, m, s⟩, rfl, bounds_i64 hk, bounds_i64 hm, hs⟩
structure StpV where
  s : Stp
  rv : Value
def StpV.cells (x : StpV) : List Value := [.int .i64 x.s.n, .int .i64 x.s.op, .string x.s.name, x.rv]
def StpV.good (w : World) (x : StpV) : Prop := Sl w w.heap.size 3 x.rv x.s.v.length (valCells x.s.v) ∧ x.s.fits
theorem row_of_trod {held : Bool} {fuel : Nat} {cs : List Value} {x : DataW H × List MemPlace} (h : DataW.trod enc Tryz.prog w 0 (fun _ => true) held fuel 35 cs = some x) :
    ∃ rv, ∃ l : List Val, cs = [rv] ∧ Sl w w.heap.size 3 rv l.length (valCells l) ∧ ∀ v ∈ l, v.fits := by
  obtain ⟨A, n, c, css, e1, hcl, hel, hsl⟩ := slice_of_trod Tryz.underlying35 csz_val (by omega) h
  obtain ⟨l, hn, hcs, hg⟩ := choose_all Val.cells Val.fits hcl (fun j hj => by
    obtain ⟨fu, y, _, hy⟩ := hel j hj
    exact vcells_of_trod hy)
  subst hn
  rw [hcs] at hsl
  have e : (l.map Val.cells).flatten = valCells l := by unfold valCells; rw [List.flatMap_def]
  rw [e] at hsl
  exact ⟨_, l, e1, hsl, hg⟩
set_option maxRecDepth 100000 in
theorem stp_of_trod {held : Bool} {fuel : Nat} {cs : List Value} {x : DataW H × List MemPlace} (h : DataW.trod enc Tryz.prog w 0 (fun _ => true) held fuel 37 cs = some x) :
    ∃ a : StpV, cs = a.cells ∧ a.good w := by
  obtain ⟨xs, n, _, _, hl, hlen, hf⟩ := DataW.trod_struct Tryz.underlying37 h
  rw [show Tryz.prog.cellsOf 37 = 4 by kernel_rfl] at hl
  have f0 := hf 0 _ (by simp only [List.getElem?_toArray, List.getElem?_cons_succ, List.getElem?_cons_zero]; rfl)
  have f1 := hf 1 _ (by simp only [List.getElem?_toArray, List.getElem?_cons_succ, List.getElem?_cons_zero]; rfl)
  have f2 := hf 2 _ (by simp only [List.getElem?_toArray, List.getElem?_cons_succ, List.getElem?_cons_zero]; rfl)
  have f3 := hf 3 _ (by simp only [List.getElem?_toArray, List.getElem?_cons_succ, List.getElem?_cons_zero]; rfl)
  rw [csz_int] at f0 f1
  rw [csz_str] at f2
  rw [show Tryz.prog.cellsOf 35 = 1 by kernel_rfl] at f3
  match xs, hlen, cs, hl with
  | [x0, x1, x2, x3], _, [c0, c1, c2, c3], _ =>
    obtain ⟨k0, e0, _, h0⟩ := DataW.trod_int Tryz.underlying3 f0
    obtain ⟨k1, e1, _, h1⟩ := DataW.trod_int Tryz.underlying3 f1
    obtain ⟨s2, e2, _, h2⟩ := DataW.trod_string Tryz.underlying9 f2
    obtain ⟨rv, l, e3, s3, g3⟩ := row_of_trod f3
    simp at e0 e1 e2 e3
    subst e0 e1 e2 e3
    exact ⟨⟨⟨k0, k1, s2, l⟩, _⟩, rfl, s3, ⟨bounds_i64 h0, bounds_i64 h1, h2, g3⟩⟩
/-- Steps that came in. -/
def StpsArg (w : World) (v : Value) (l : List Stp) : Prop := Deep StpR w (fun _ => True) 4 v l ∧ ∀ s ∈ l, s.fits
set_option maxRecDepth 100000 in
theorem steps_of_trod {base : Nat} {v : Value} {d : DataW H} {p : List MemPlace} (hval : Value.okWide Tryz.prog w .any base 22 v) (h : DataW.Trod enc Tryz.prog w 0 (fun _ => true) true 22 v d p) : ∃ l, StpsArg w v l := by
  obtain ⟨A, len, cap, rfl⟩ := okWide_slice Tryz.underlying22 hval
  obtain ⟨fuel, hf⟩ := h
  obtain ⟨A', n, c, css, e1, hcl, hel, hsl⟩ := slice_of_trod Tryz.underlying22 (show Tryz.prog.cellsOf 37 = 4 by kernel_rfl) (by omega) hf
  simp [Value.cells] at e1
  obtain ⟨rfl, rfl, rfl⟩ := e1
  obtain ⟨l, hn, hcs, hg⟩ := choose_all StpV.cells (StpV.good w) hcl (fun j hj => by
    obtain ⟨fu, y, _, hy⟩ := hel j hj
    exact stp_of_trod hy)
  subst hn
  rw [hcs] at hsl
  refine ⟨l.map (·.s), ?_, ?_⟩
  · refine Deep.mk' (css := l.map StpV.cells) (by simp) (by intro c hc; obtain ⟨a, _, rfl⟩ := List.mem_map.1 hc; rfl) (fun i hi hi' => ?_) (by rw [List.length_map]; exact hsl.slS (fun _ _ _ => trivial))
    simp only [List.getElem_map]
    have hi2 : i < l.length := by simpa using hi
    exact ⟨_, rfl, (hg _ (List.getElem_mem hi2)).1.slS (fun _ _ _ => trivial)⟩
  · intro s hs
    obtain ⟨a, ha, rfl⟩ := List.mem_map.1 hs
    exact (hg a ha).2
end
end Go.Proofs.YtoahnhphfabajaaGreat
