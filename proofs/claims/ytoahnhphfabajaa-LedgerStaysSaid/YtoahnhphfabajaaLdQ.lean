/- Transactions, blocks, steps that came in. -/
import Derived.Test.YtoahnhphfabajaaLdP
import Derived.Test.YtoahnhphfabajaaGK
namespace Go.Proofs.Ytoahnhphfabajaa
open Go.RowKit Go.WideShapes
set_option linter.unusedVariables false
set_option maxRecDepth 10000
set_option linter.unusedSimpArgs false
set_option linter.unnecessarySimpa false

/-- What a Go program's memory can hold. -/
structure Chg.fits (c : Chg) : Prop where
  table : c.table.size ≤ maxLen
  op : i64ok c.op
  row : ∀ v ∈ c.row, v.fits
structure ChgV where
  c : Chg
  rv : Value
def ChgV.cells (x : ChgV) : List Value := [.string x.c.table, .int .i64 x.c.op, x.rv]
def ChgV.good (w : World) (x : ChgV) : Prop := Sl w w.heap.size 3 x.rv x.c.row.length (valCells x.c.row) ∧ x.c.fits
/-- A step of the statements. -/
structure Stp where
  n : Int
  op : Int
  name : ByteArray
  v : List Val
structure Stp.fits (s : Stp) : Prop where
  n : i64ok s.n
  op : i64ok s.op
  name : s.name.size ≤ maxLen
  v : ∀ x ∈ s.v, x.fits
def StpR (w : World) (S : Nat → Prop) (cs : List Value) (s : Stp) : Prop := ∃ rv, cs = [.int .i64 s.n, .int .i64 s.op, .string s.name, rv] ∧ SlS w S 3 rv s.v.length (valCells s.v)
theorem StpR.lasts : Lasts StpR := ⟨fun ⟨rv, e, h⟩ k => ⟨rv, e, h.keep k⟩, fun ⟨rv, e, h⟩ hS => ⟨rv, e, h.mono hS⟩⟩
structure StpV where
  s : Stp
  rv : Value
def StpV.cells (x : StpV) : List Value := [.int .i64 x.s.n, .int .i64 x.s.op, .string x.s.name, x.rv]
def StpV.good (w : World) (x : StpV) : Prop := Sl w w.heap.size 3 x.rv x.s.v.length (valCells x.s.v) ∧ x.s.fits
section
variable {H : Type} {enc : TypeId × Value → H} {w : World}
theorem row_of_trod {held : Bool} {fuel : Nat} {cs : List Value} {x : DataW H × List MemPlace} (h : DataW.trod enc Try.prog w 0 (fun _ => true) held fuel 31 cs = some x) :
    ∃ rv, ∃ l : List Val, cs = [rv] ∧ Sl w w.heap.size 3 rv l.length (valCells l) ∧ ∀ v ∈ l, v.fits := by
  obtain ⟨A, n, c, css, e1, hcl, hel, hsl⟩ := slice_of_trod Try.underlying31 csz_val (by omega) h
  obtain ⟨l, hn, hcs, hg⟩ := choose_all Val.cells Val.fits hcl (fun j hj => by
    obtain ⟨fu, y, _, hy⟩ := hel j hj
    exact vcells_of_trod hy)
  subst hn
  rw [hcs] at hsl
  have e : (l.map Val.cells).flatten = valCells l := by unfold valCells; rw [List.flatMap_def]
  rw [e] at hsl
  exact ⟨_, l, e1, hsl, hg⟩
set_option maxRecDepth 100000 in
theorem chg_of_trod {held : Bool} {fuel : Nat} {cs : List Value} {x : DataW H × List MemPlace} (h : DataW.trod enc Try.prog w 0 (fun _ => true) held fuel 33 cs = some x) :
    ∃ a : ChgV, cs = a.cells ∧ a.good w := by
  obtain ⟨xs, n, _, _, hl, hlen, hf⟩ := DataW.trod_struct Try.underlying33 h
  rw [show Try.prog.cellsOf 33 = 3 by kernel_rfl] at hl
  have f0 := hf 0 _ (by simp only [List.getElem?_toArray, List.getElem?_cons_succ, List.getElem?_cons_zero]; rfl)
  have f1 := hf 1 _ (by simp only [List.getElem?_toArray, List.getElem?_cons_succ, List.getElem?_cons_zero]; rfl)
  have f2 := hf 2 _ (by simp only [List.getElem?_toArray, List.getElem?_cons_succ, List.getElem?_cons_zero]; rfl)
  rw [csz_str] at f0
  rw [csz_int] at f1
  rw [show Try.prog.cellsOf 31 = 1 by kernel_rfl] at f2
  match xs, hlen, cs, hl with
  | [x0, x1, x2], _, [c0, c1, c2], _ =>
    obtain ⟨s0, e0, _, h0⟩ := DataW.trod_string Try.underlying9 f0
    obtain ⟨k1, e1, _, h1⟩ := DataW.trod_int Try.underlying3 f1
    obtain ⟨rv, l, e2, s2, g2⟩ := row_of_trod f2
    simp at e0 e1 e2
    subst e0 e1 e2
    exact ⟨⟨⟨s0, k1, l⟩, _⟩, rfl, s2, ⟨h0, bounds_i64 h1, g2⟩⟩
theorem deep_chgs {v : Value} {l : List ChgV} (hg : ∀ a ∈ l, a.good w) (hs : Sl w w.heap.size 3 v l.length (l.map ChgV.cells).flatten) : Deep ChgR w (fun _ => True) 3 v (l.map (·.c)) := by
  refine Deep.mk' (css := l.map ChgV.cells) (by simp) (by intro c hc; obtain ⟨a, _, rfl⟩ := List.mem_map.1 hc; rfl) (fun i hi hi' => ?_) (by rw [List.length_map]; exact hs.slS (fun _ _ _ => trivial))
  simp only [List.getElem_map]
  have hi2 : i < l.length := by simpa using hi
  exact ⟨_, rfl, (hg _ (List.getElem_mem hi2)).1.slS (fun _ _ _ => trivial)⟩
/-- A transaction that came in. -/
def TxArg (w : World) (v : Value) (t : Txn) : Prop := ∃ cv, v = .agg #[.int .i64 t.id, cv] ∧ Deep ChgR w (fun _ => True) 3 cv t.chs ∧ i64ok t.id ∧ ∀ c ∈ t.chs, c.fits
set_option maxRecDepth 100000 in
theorem tx_of_trod {base : Nat} {v : Value} {d : DataW H} {p : List MemPlace} (hval : Value.okWide Try.prog w .any base 24 v) (h : DataW.Trod enc Try.prog w 0 (fun _ => true) true 24 v d p) : ∃ t, TxArg w v t := by
  obtain ⟨cs, rfl, _⟩ := okWide_struct Try.underlying24 hval
  obtain ⟨fuel, hf⟩ := h
  obtain ⟨xs, n, _, _, hl, hlen, hf⟩ := DataW.trod_struct Try.underlying24 hf
  rw [show Try.prog.cellsOf 24 = 2 by kernel_rfl] at hl
  have f0 := hf 0 _ (by simp only [List.getElem?_toArray, List.getElem?_cons_succ, List.getElem?_cons_zero]; rfl)
  have f1 := hf 1 _ (by simp only [List.getElem?_toArray, List.getElem?_cons_succ, List.getElem?_cons_zero]; rfl)
  rw [csz_int] at f0
  rw [show Try.prog.cellsOf 22 = 1 by kernel_rfl] at f1
  simp only [Value.cells] at hl f0 f1
  obtain ⟨ls, hls⟩ : ∃ ls, ls = cs.toList := ⟨_, rfl⟩
  rw [← hls] at hl f0 f1
  match xs, hlen, ls, hl with
  | [x0, x1], _, [c0, c1], _ =>
    obtain ⟨k0, e0, _, h0⟩ := DataW.trod_int Try.underlying3 f0
    obtain ⟨A, n, c, css, e1, hcl, hel, hsl⟩ := slice_of_trod Try.underlying22 (show Try.prog.cellsOf 33 = 3 by kernel_rfl) (by omega) f1
    obtain ⟨l, hn, hcs, hg⟩ := choose_all ChgV.cells (ChgV.good w) hcl (fun j hj => by
      obtain ⟨fu, y, _, hy⟩ := hel j hj
      exact chg_of_trod hy)
    subst hn
    rw [hcs] at hsl
    simp at e0 e1
    subst e0 e1
    refine ⟨⟨k0, l.map (·.c)⟩, .slice A l.length c, ?_, deep_chgs hg hsl, bounds_i64 h0, ?_⟩
    · have : cs = #[.int .i64 k0, .slice A l.length c] := by rw [← Array.toArray_toList (xs := cs), ← hls]
      rw [this]
    · intro x hx
      obtain ⟨a, ha, rfl⟩ := List.mem_map.1 hx
      exact (hg a ha).2
/-- A block that came in. -/
def BloArg (v : Value) (b : Blo) : Prop := v = .agg b.cells.toArray ∧ b.ok
set_option maxRecDepth 100000 in
theorem blo_of_trod {base : Nat} {v : Value} {d : DataW H} {p : List MemPlace} (hval : Value.okWide Try.prog w .any base 28 v) (h : DataW.Trod enc Try.prog w 0 (fun _ => true) true 28 v d p) : ∃ b, BloArg v b := by
  obtain ⟨cs, rfl, _⟩ := okWide_struct Try.underlying28 hval
  obtain ⟨fuel, hf⟩ := h
  obtain ⟨xs, n, _, _, hl, hlen, hf⟩ := DataW.trod_struct Try.underlying28 hf
  rw [show Try.prog.cellsOf 28 = 66 by kernel_rfl] at hl
  have f0 := hf 0 _ (by simp only [List.getElem?_toArray, List.getElem?_cons_succ, List.getElem?_cons_zero]; rfl)
  have f1 := hf 1 _ (by simp only [List.getElem?_toArray, List.getElem?_cons_succ, List.getElem?_cons_zero]; rfl)
  have f2 := hf 2 _ (by simp only [List.getElem?_toArray, List.getElem?_cons_succ, List.getElem?_cons_zero]; rfl)
  have f3 := hf 3 _ (by simp only [List.getElem?_toArray, List.getElem?_cons_succ, List.getElem?_cons_zero]; rfl)
  rw [csz_int] at f0 f3
  rw [csz_hash] at f1 f2
  simp only [Value.cells] at hl f0 f1 f2 f3
  obtain ⟨ls, hls⟩ : ∃ ls, ls = cs.toList := ⟨_, rfl⟩
  rw [← hls] at hl f0 f1 f2 f3
  match xs, hlen with
  | [x0, x1, x2, x3], _ =>
    obtain ⟨k0, e0, _, h0⟩ := DataW.trod_int Try.underlying3 f0
    obtain ⟨r1, e1, l1⟩ := hash_of_trod f1
    obtain ⟨r2, e2, l2⟩ := hash_of_trod f2
    obtain ⟨k3, e3, _, h3⟩ := DataW.trod_int Try.underlying3 f3
    refine ⟨⟨k0, r1, r2, k3⟩, ?_, ⟨l1, l2⟩⟩
    have hcs : ls = Blo.cells ⟨k0, r1, r2, k3⟩ := by
      unfold Blo.cells
      simp only [List.drop_zero] at e0
      have a1 : ls.take 1 ++ ls.drop 1 = ls := List.take_append_drop 1 ls
      have a2 : (ls.drop 1).take 32 ++ ls.drop 33 = ls.drop 1 := by have := List.take_append_drop 32 (ls.drop 1); rwa [List.drop_drop] at this
      have a3 : (ls.drop 33).take 32 ++ ls.drop 65 = ls.drop 33 := by have := List.take_append_drop 32 (ls.drop 33); rwa [List.drop_drop] at this
      have a4 : (ls.drop 65).take 1 = ls.drop 65 := List.take_of_length_le (by rw [List.length_drop, hl]; omega)
      rw [← a1, ← a2, ← a3, ← a4, e0, e1, e2, e3]
      simp
    have : cs = (Blo.cells ⟨k0, r1, r2, k3⟩).toArray := by rw [← hcs, hls]
    rw [this]
set_option maxRecDepth 100000 in
theorem stp_of_trod {held : Bool} {fuel : Nat} {cs : List Value} {x : DataW H × List MemPlace} (h : DataW.trod enc Try.prog w 0 (fun _ => true) held fuel 70 cs = some x) :
    ∃ a : StpV, cs = a.cells ∧ a.good w := by
  obtain ⟨xs, n, _, _, hl, hlen, hf⟩ := DataW.trod_struct Try.underlying70 h
  rw [show Try.prog.cellsOf 70 = 4 by kernel_rfl] at hl
  have f0 := hf 0 _ (by simp only [List.getElem?_toArray, List.getElem?_cons_succ, List.getElem?_cons_zero]; rfl)
  have f1 := hf 1 _ (by simp only [List.getElem?_toArray, List.getElem?_cons_succ, List.getElem?_cons_zero]; rfl)
  have f2 := hf 2 _ (by simp only [List.getElem?_toArray, List.getElem?_cons_succ, List.getElem?_cons_zero]; rfl)
  have f3 := hf 3 _ (by simp only [List.getElem?_toArray, List.getElem?_cons_succ, List.getElem?_cons_zero]; rfl)
  rw [csz_int] at f0 f1
  rw [csz_str] at f2
  rw [show Try.prog.cellsOf 31 = 1 by kernel_rfl] at f3
  match xs, hlen, cs, hl with
  | [x0, x1, x2, x3], _, [c0, c1, c2, c3], _ =>
    obtain ⟨k0, e0, _, h0⟩ := DataW.trod_int Try.underlying3 f0
    obtain ⟨k1, e1, _, h1⟩ := DataW.trod_int Try.underlying3 f1
    obtain ⟨s2, e2, _, h2⟩ := DataW.trod_string Try.underlying9 f2
    obtain ⟨rv, l, e3, s3, g3⟩ := row_of_trod f3
    simp at e0 e1 e2 e3
    subst e0 e1 e2 e3
    exact ⟨⟨⟨k0, k1, s2, l⟩, _⟩, rfl, s3, ⟨bounds_i64 h0, bounds_i64 h1, h2, g3⟩⟩
/-- Steps that came in. -/
def StpsArg (w : World) (v : Value) (l : List Stp) : Prop := Deep StpR w (fun _ => True) 4 v l ∧ ∀ s ∈ l, s.fits
set_option maxRecDepth 100000 in
theorem steps_of_trod {base : Nat} {v : Value} {d : DataW H} {p : List MemPlace} (hval : Value.okWide Try.prog w .any base 47 v) (h : DataW.Trod enc Try.prog w 0 (fun _ => true) true 47 v d p) : ∃ l, StpsArg w v l := by
  obtain ⟨A, len, cap, rfl⟩ := okWide_slice Try.underlying47 hval
  obtain ⟨fuel, hf⟩ := h
  obtain ⟨A', n, c, css, e1, hcl, hel, hsl⟩ := slice_of_trod Try.underlying47 (show Try.prog.cellsOf 70 = 4 by kernel_rfl) (by omega) hf
  simp [Value.cells] at e1
  obtain ⟨rfl, rfl, rfl⟩ := e1
  obtain ⟨l, hn, hcs, hg⟩ := choose_all StpV.cells (StpV.good w) hcl (fun j hj => by
    obtain ⟨fu, y, _, hy⟩ := hel j hj
    exact stp_of_trod hy)
  subst hn
  rw [hcs] at hsl
  refine ⟨l.map (·.s), ?_, ?_⟩
  · refine Deep.mk' (css := l.map StpV.cells) (by simp) (by intro c hc; obtain ⟨a, _, rfl⟩ := List.mem_map.1 hc; rfl) (fun i hi hi' => ?_) (by rw [List.length_map]; exact hsl.slS (fun _ _ _ => trivial))
    simp only [List.getElem_map]
    have hi2 : i < l.length := by simpa using hi
    exact ⟨_, rfl, (hg _ (List.getElem_mem hi2)).1.slS (fun _ _ _ => trivial)⟩
  · intro s hs
    obtain ⟨a, ha, rfl⟩ := List.mem_map.1 hs
    exact (hg a ha).2
end
end Go.Proofs.Ytoahnhphfabajaa
