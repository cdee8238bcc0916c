/- Values, and rows of values, that came in. -/
import Derived.Test.YtfehhiegnhplhaaOpn
import Derived.Test.YtfehhiegnhplhaaVRow
namespace Go.Proofs.Ytfehhiegnhplhaa
open Go.RowKit Go.WideShapes
set_option linter.unusedVariables false
set_option maxRecDepth 10000
set_option linter.unusedSimpArgs false
set_option linter.unnecessarySimpa false

section
variable {H : Type} {enc : TypeId × Value → H} {w : World}
theorem csz_str : Try.prog.cellsOf 9 = 1 := by kernel_rfl
theorem csz_int : Try.prog.cellsOf 3 = 1 := by kernel_rfl
theorem csz_val : Try.prog.cellsOf 28 = 3 := by kernel_rfl
theorem vcells_of_trod {held : Bool} {fuel : Nat} {cs : List Value} {x : DataW H × List MemPlace} (h : DataW.trod enc Try.prog w 0 (fun _ => true) held fuel 28 cs = some x) :
    ∃ c : Val, cs = c.cells ∧ c.fits := by
  obtain ⟨xs, n, _, _, hl, hlen, hf⟩ := DataW.trod_struct Try.underlying28 h
  rw [csz_val] at hl
  have f0 := hf 0 _ (by simp only [List.getElem?_toArray, List.getElem?_cons_succ, List.getElem?_cons_zero]; rfl)
  have f1 := hf 1 _ (by simp only [List.getElem?_toArray, List.getElem?_cons_succ, List.getElem?_cons_zero]; rfl)
  have f2 := hf 2 _ (by simp only [List.getElem?_toArray, List.getElem?_cons_succ, List.getElem?_cons_zero]; rfl)
  rw [csz_int] at f0
  rw [csz_int] at f1
  rw [csz_str] at f2
  match xs, hlen, cs, hl with
  | [x0, x1, x2], _, [c0, c1, c2], _ =>
    obtain ⟨k, e0, _, hk⟩ := DataW.trod_int Try.underlying3 f0
    obtain ⟨m, e1, _, hm⟩ := DataW.trod_int Try.underlying3 f1
    obtain ⟨s, e2, _, hs⟩ := DataW.trod_string Try.underlying9 f2
    simp at e0 e1 e2
    subst e0 e1 e2
    exact ⟨⟨k, m, s⟩, rfl, bounds_i64 hk, bounds_i64 hm, hs⟩
/-- A value that reads as one; a row that does. -/
def ValsArg (w : World) (v : Value) (l : List Val) : Prop := Sl w w.heap.size 3 v l.length (valCells l) ∧ ∀ c ∈ l, c.fits
theorem val_of_trod {base : Nat} {v : Value} {d : DataW H} {p : List MemPlace} (hval : Value.okWide Try.prog w .any base 28 v) (h : DataW.Trod enc Try.prog w 0 (fun _ => true) true 28 v d p) : ∃ c : Val, v = .agg c.cells.toArray ∧ c.fits := by
  obtain ⟨cs, rfl, _⟩ := okWide_struct Try.underlying28 hval
  obtain ⟨fuel, hf⟩ := h
  obtain ⟨c, e, hc⟩ := vcells_of_trod hf
  refine ⟨c, ?_, hc⟩
  simp only [Value.cells] at e
  rw [← e]
theorem vals_of_trod {base : Nat} {v : Value} {d : DataW H} {p : List MemPlace} (hval : Value.okWide Try.prog w .any base 22 v) (h : DataW.Trod enc Try.prog w 0 (fun _ => true) true 22 v d p) : ∃ l, ValsArg w v l := by
  obtain ⟨A, len, cap, rfl⟩ := okWide_slice Try.underlying22 hval
  obtain ⟨fuel, hf⟩ := h
  obtain ⟨A', n, c, css, e1, hcl, hel, hsl⟩ := slice_of_trod Try.underlying22 csz_val (by omega) hf
  simp [Value.cells] at e1
  obtain ⟨rfl, rfl, rfl⟩ := e1
  obtain ⟨l, hn, hcs, hg⟩ := choose_all Val.cells Val.fits hcl (fun j hj => by
    obtain ⟨fu, y, _, hy⟩ := hel j hj
    exact vcells_of_trod hy)
  rw [hcs] at hsl
  refine ⟨l, ?_, hg⟩
  rw [hn]
  have e : (l.map Val.cells).flatten = valCells l := by unfold valCells; rw [List.flatMap_def]
  rw [e] at hsl
  exact hsl
end
end Go.Proofs.Ytfehhiegnhplhaa
