/- A schema that came in. -/
import Derived.Test.YtdllgnccjejhiaaOpn
import Derived.Test.YtdllgnccjejhiaaCheck
namespace Go.Proofs.Ytdllgnccjejhiaa
open Go.RowKit Go.WideShapes
set_option linter.unusedVariables false
set_option maxRecDepth 10000
set_option linter.unusedSimpArgs false
set_option linter.unnecessarySimpa false

/-- A value that reads as a schema. -/
def SchArg (w : World) (v : Value) (s : Sch) : Prop :=
  ∃ A n c, v = .agg #[.string s.name, .slice A n c, .int .i64 s.key, .bool s.only] ∧ Sl w w.heap.size 3 (.slice A n c) n (colCells s.cols) ∧ s.fits ∧
    (-9223372036854775808 ≤ s.key ∧ s.key ≤ 9223372036854775807) ∧ (∀ c ∈ s.cols, -9223372036854775808 ≤ c.kind ∧ c.kind ≤ 9223372036854775807)
section
variable {H : Type} {enc : TypeId × Value → H} {w : World}
theorem cs1 : Try.prog.cellsOf 9 = 1 := by kernel_rfl
theorem cs2 : Try.prog.cellsOf 3 = 1 := by kernel_rfl
theorem cs3 : Try.prog.cellsOf 4 = 1 := by kernel_rfl
theorem cs4 : Try.prog.cellsOf 28 = 1 := by kernel_rfl
theorem cs5 : Try.prog.cellsOf 27 = 3 := by kernel_rfl
theorem cs6 : Try.prog.cellsOf 30 = 4 := by kernel_rfl
theorem col_of_trod {held : Bool} {fuel : Nat} {cs : List Value} {x : DataW H × List MemPlace} (h : DataW.trod enc Try.prog w 0 (fun _ => true) held fuel 27 cs = some x) :
    ∃ c : Col, cs = c.cells ∧ (c.name.size ≤ maxLen ∧ (-9223372036854775808 ≤ c.kind ∧ c.kind ≤ 9223372036854775807)) := by
  obtain ⟨xs, n, _, _, hl, hlen, hf⟩ := DataW.trod_struct Try.underlying27 h
  rw [cs5] at hl
  have f0 := hf 0 _ (by simp only [List.getElem?_toArray, List.getElem?_cons_succ, List.getElem?_cons_zero]; rfl)
  have f1 := hf 1 _ (by simp only [List.getElem?_toArray, List.getElem?_cons_succ, List.getElem?_cons_zero]; rfl)
  have f2 := hf 2 _ (by simp only [List.getElem?_toArray, List.getElem?_cons_succ, List.getElem?_cons_zero]; rfl)
  rw [cs1] at f0
  rw [cs2] at f1
  rw [cs3] at f2
  match xs, hlen, cs, hl with
  | [x0, x1, x2], _, [c0, c1, c2], _ =>
    obtain ⟨s, e0, _, hs⟩ := DataW.trod_string Try.underlying9 f0
    obtain ⟨k, e1, _, hk⟩ := DataW.trod_int Try.underlying3 f1
    obtain ⟨b, e2, _⟩ := DataW.trod_bool Try.underlying4 f2
    simp at e0 e1 e2
    subst e0 e1 e2
    exact ⟨⟨s, k, b⟩, rfl, hs, bounds_i64 hk⟩
theorem sch_of_trod {base : Nat} {v : Value} {d : DataW H} {p : List MemPlace} (hval : Value.okWide Try.prog w .any base 30 v) (h : DataW.Trod enc Try.prog w 0 (fun _ => true) true 30 v d p) : ∃ s, SchArg w v s := by
  obtain ⟨cs, rfl, _⟩ := okWide_struct Try.underlying30 hval
  obtain ⟨fuel, h⟩ := h
  obtain ⟨xs, n, _, _, hl, hlen, hf⟩ := DataW.trod_struct Try.underlying30 h
  rw [cs6] at hl
  have f0 := hf 0 _ (by simp only [List.getElem?_toArray, List.getElem?_cons_succ, List.getElem?_cons_zero]; rfl)
  have f1 := hf 1 _ (by simp only [List.getElem?_toArray, List.getElem?_cons_succ, List.getElem?_cons_zero]; rfl)
  have f2 := hf 2 _ (by simp only [List.getElem?_toArray, List.getElem?_cons_succ, List.getElem?_cons_zero]; rfl)
  have f3 := hf 3 _ (by simp only [List.getElem?_toArray, List.getElem?_cons_succ, List.getElem?_cons_zero]; rfl)
  rw [cs1] at f0
  rw [cs4] at f1
  rw [cs2] at f2
  rw [cs3] at f3
  obtain ⟨l, hcl⟩ : ∃ l, cs = List.toArray l := ⟨cs.toList, by simp⟩
  subst hcl
  simp only [Value.cells] at hl f0 f1 f2 f3
  match xs, hlen, l, hl with
  | [x0, x1, x2, x3], _, [c0, c1, c2, c3], _ =>
    obtain ⟨s, e0, _, hs⟩ := DataW.trod_string Try.underlying9 f0
    obtain ⟨A, len, cap, css, e1, hcl, hel, hsl⟩ := slice_of_trod Try.underlying28 cs5 (by omega) f1
    obtain ⟨k, e2, _, hk⟩ := DataW.trod_int Try.underlying3 f2
    obtain ⟨b, e3, _⟩ := DataW.trod_bool Try.underlying4 f3
    simp at e0 e1 e2 e3
    subst e0 e1 e2 e3
    obtain ⟨cols, hn, hcs, hg⟩ := choose_all Col.cells (fun c => c.name.size ≤ maxLen ∧ (-9223372036854775808 ≤ c.kind ∧ c.kind ≤ 9223372036854775807)) hcl (fun j hj => by
      obtain ⟨fu, y, _, hy⟩ := hel j hj
      exact col_of_trod hy)
    refine ⟨⟨s, cols, k, b⟩, A, len, cap, rfl, ?_, ⟨hs, fun c hc => (hg c hc).1⟩, bounds_i64 hk, fun c hc => (hg c hc).2⟩
    rw [hcs] at hsl
    exact hsl
end
end Go.Proofs.Ytdllgnccjejhiaa
