/- Great arrays in blocks: alloc, load, store, by their rows. -/
import Derived.Test.YtibolcekhdapaaaPats
import Derived.Great.BuildSlice
import Derived.Great.Walk
import Derived.Deep.WholeRow
namespace Go.Proofs.Ytibolcekhdapaaa
open Go.RowKit
set_option linter.unusedVariables false
set_option maxRecDepth 10000
set_option linter.unusedSimpArgs false

section
variable {P : Program} {ops : Array Oper} {rest : List Oper} {o : Oper} {a : Act} {w : World} {Q : Exit → Act → World → Prop}
theorem run_alloc_arr (w : World) (ty : TypeId) (zs : Array Value) (hz : (P.info? ty).bind (·.zero) = some (.agg zs)) : (Instr.alloc ty true (.tuple #[])).run P w = .ok (.pointer (some ⟨w.heap.size, 0, none⟩)) (w.alloc (.cells zs ty)) := by
  cases hq : P.info? ty with
  | none => simp [hq] at hz
  | some i =>
    simp only [hq, Option.bind_some] at hz
    simp [Instr.alloc, zeroValue, typeInfo, hq, hz, newVar, newRow, Value.cells]
/-- A variable of an array type: its zeros. -/
theorem wpList_alloc_arr (hgd : o.guard = none) (ty : TypeId) (ho : o.op = .alloc ty) (zs : Array Value) (hz : (P.info? ty).bind (·.zero) = some (.agg zs))
    (h : wpList P ops Q rest (a.put o.dst (.pointer (some ⟨w.heap.size, 0, none⟩))) (w.alloc (.cells zs ty))) : wpList P ops Q (o :: rest) a w :=
  wpList_plain hgd fun _ hK => by
    unfold Oper.wp execOp
    simp only [ho, Sem.run_bind, Sem.run_pure, run_alloc_arr w ty zs hz, Result.andThen_ok]
    exact hK _ _ h
/-- A whole array out of its block. -/
theorem wpList_load_blk (hgd : o.guard = none) (ty : TypeId) (x : Operand) (ho : o.op = .load ty x) (g : Nat) (hx : a.eval x = .pointer (some ⟨g, 0, none⟩)) (cs : List Value) (t : TypeId) (d : TypeDesc) (hb : Blk w g cs t)
    (hu : P.underlying ty = some d) (hd : d.isRow = true) (hi : (P.info? ty).map (·.size) = some cs.length)
    (h : wpList P ops Q rest (a.put o.dst (.agg cs.toArray)) w) : wpList P ops Q (o :: rest) a w := by
  have hr := hb.range 0 cs.length
  rw [List.drop_zero, List.take_length] at hr
  exact wpList_load_mid hgd ty x ho g 0 hx cs d hr hu hd hi h
/-- A whole array into its block: the world behind it left open. -/
theorem wpList_store_blk (hgd : o.guard = none) (ty : TypeId) (x y : Operand) (ho : o.op = .store ty x y) (g : Nat) (hx : a.eval x = .pointer (some ⟨g, 0, none⟩)) (cs old : List Value) (t : TypeId) (hy : a.eval y = .agg cs.toArray) (hb : Blk w g old t)
    (hl : old.length = cs.length) (hi : (P.info? ty).map (·.size) = some cs.length) (h1 : ∀ u ∈ cs, u.oneCell' = true)
    (h : ∀ w', Blk w' g cs t → Turns [g] w w' → w'.heap.size = w.heap.size → wpList P ops Q rest (a.put o.dst undef) w') : wpList P ops Q (o :: rest) a w := by
  refine wpList_store_mid hgd ty x y ho g 0 cs.toArray hx hy (by simpa [hl] using hb.there 0 cs.length (by omega)) (by simpa using hi) (all_oneCell_toArray h1) ?_
  have hb' := hb.setCells cs 0
  rw [spl_whole _ _ hl] at hb'
  refine h _ (by simpa using hb') (by simpa using Turns.setCells (L := [g]) (a := w) (b := g) (.inl (by simp)) cs 0 (Turns.refl [g] w)) ?_
  have : ∀ (vs : List Value) (w : World) (k : Nat), (w.setCells g k vs).heap.size = w.heap.size := by
    intro vs
    induction vs with
    | nil => intro w k; rfl
    | cons v vs ih => intro w k; rw [World.setCells, ih]; simp [World.setCell]
  exact this _ _ _
end
end Go.Proofs.Ytibolcekhdapaaa
