/- The builtin copy, of elements of any size, into a block that is known whole; at the operation. -/
import Derived.Test.YtdhbaepmbgoobaaCopy
namespace Go.Proofs.Ytdhbaepmbgoobaa
open Go.RowKit
set_option linter.unusedVariables false
set_option maxRecDepth 10000
set_option linter.unusedSimpArgs false
set_option linter.unnecessarySimpa false

/-- copy: the cells are written over, nothing else turns. -/
theorem run_copy_blk {P : Program} {t s e : TypeId} {z : Value} {size bytes : Nat} (T : SliceTy P t e z size bytes) (ty : TypeId) {W : World} {b o dLen dCap : Nat} {cs : List Value} {tt : TypeId} (hB : Blk W b cs tt)
    {B m : Nat} {x : Value} {xs : List Value} (hs : Sl W B size x m xs) (h1 : ∀ u ∈ xs, u.oneCell' = true) (hfit : o + min m dLen * size ≤ cs.length) :
    ∃ v' W', (Builtin.copy_ #[t, s] ty #[.slice (some ⟨b, o, none⟩) dLen dCap, x]).run P W = .ok v' W' ∧
      v' = .int .i64 (min m dLen : Nat) ∧ Blk W' b (spl cs o (xs.take (min m dLen * size))) tt ∧ Turns [b] W W' := by
  obtain ⟨hl, A, c, rfl, h2, h3, h4, hr⟩ := hs
  obtain ⟨i, hi, _, hsz, _⟩ := info_parts T.info
  have hlen : (xs.take (min m dLen * size)).length = min m dLen * size := by
    rw [List.length_take, hl]
    have := Nat.mul_le_mul_right size (Nat.min_le_left m dLen)
    omega
  refine ⟨_, _, ?_, rfl, hB.setCells (xs.take (min m dLen * size)) o, Turns.setCells (.inl (by simp)) _ _ (Turns.refl _ _)⟩
  by_cases h0 : min m dLen = 0
  · rw [h0]
    cases A <;> simp [Builtin.copy_, run_underlying T.und, sizeOf, typeInfo, hi, Builtin.lenOf, Builtin.firstCells, h0, storeCells, loadCells, loadCellsFrom, World.setCells, goInt]
  · have hx : xs ≠ [] := by
      intro h; subst h
      have := T.pos
      have hm : 0 < m := by omega
      have := Nat.mul_pos hm this
      simp at hl; omega
    obtain ⟨bb, off, rfl, hbb, hc⟩ := hr hx
    have hload := run_loadCells_list (P := P) W ⟨bb, off, none⟩ (xs.take (min m dLen * size)) (fun j v hv => by
      rw [Addr.add_mid]
      refine hc j v ?_
      rw [List.getElem?_take] at hv
      split at hv
      · exact hv
      · cases hv)
    have hst := run_storeCells_cells (P := P) b o (xs.take (min m dLen * size)) 0 W (fun j hj => (hB.there o (min m dLen * size) hfit j (by rw [hlen] at hj; omega)).1)
      (fun j hj => (hB.there o (min m dLen * size) hfit j (by rw [hlen] at hj; omega)).2) (fun v hv => h1 v (List.mem_of_mem_take hv))
    rw [hlen] at hload
    simp only [Nat.add_zero] at hst
    simp [Builtin.copy_, run_underlying T.und, Builtin.lenOf, Builtin.firstCells, sizeOf, typeInfo, hi, hsz, hload, hst, goInt]

theorem wp_copy_run {P : Program} {w : World} {o : Oper} {a : Act} {K : Act → World → Prop} {Q : Exit → Act → World → Prop} {t u : TypeId} (s x : Operand)
    (ho : o.op = .call { callee := .builtin .copy, args := #[s, x], argTypes := #[t, u] }) {vs vx : Value}
    {R : Value → World → Prop} (hrun : ∃ v' w', (Builtin.copy_ #[t, u] o.type #[vs, vx]).run P w = .ok v' w' ∧ R v' w') (hs : a.eval s = vs) (hx : a.eval x = vx)
    (h : ∀ v' w', R v' w' → K (a.put o.dst v') w') : o.wp P a w K Q := by
  obtain ⟨v', w', hrun, h2⟩ := hrun
  unfold Oper.wp execOp
  simp only [ho, resolve, invoke, builtin, Sem.run_bind, Sem.run_pure, Result.andThen_ok, List.map_toArray, List.map_cons, List.map_nil, hs, hx, hrun]
  exact h v' w' h2
theorem wpList_copy {P : Program} {w : World} {ops : Array Oper} {rest : List Oper} {o : Oper} {a : Act} {Q : Exit → Act → World → Prop} (hgd : o.guard = none) {t u : TypeId} (s x : Operand)
    (ho : o.op = .call { callee := .builtin .copy, args := #[s, x], argTypes := #[t, u] }) {vs vx : Value}
    {R : Value → World → Prop} (hrun : ∃ v' w', (Builtin.copy_ #[t, u] o.type #[vs, vx]).run P w = .ok v' w' ∧ R v' w') (hs : a.eval s = vs) (hx : a.eval x = vx)
    (h : ∀ v' w', R v' w' → wpList P ops Q rest (a.put o.dst v') w') : wpList P ops Q (o :: rest) a w :=
  wpList_plain hgd fun _ hK => wp_copy_run s x ho hrun hs hx fun v' w' h2 => hK _ _ (h v' w' h2)

/-- A part of a block, as a slice value of elements of any size. -/
theorem Blk.sl {w : World} {g : Nat} {cs : List Value} {t : TypeId} (h : Blk w g cs t) (o n c size : Nat) (hn : o + n * size ≤ cs.length) (hc : n ≤ c) (hm : c ≤ maxLen) : Sl w w.heap.size size (.slice (some ⟨g, o, none⟩) n c) n ((cs.drop o).take (n * size)) :=
  ⟨by rw [List.length_take, List.length_drop]; omega, _, _, rfl, hc, hm, (fun h => by cases h), fun _ => ⟨g, o, rfl, h.lt, fun j u hu => h.range o (n * size) j u hu⟩⟩
theorem spl_whole {α : Type} (l m : List α) (h : l.length = m.length) : spl l 0 m = m := by
  apply List.ext_getElem?
  intro k
  by_cases hk : k < m.length
  · have := spl_in m l 0 k hk (by omega)
    rwa [Nat.zero_add] at this
  · rw [spl_out _ _ _ _ (by omega), List.getElem?_eq_none (by omega), List.getElem?_eq_none (by omega)]
end Go.Proofs.Ytdhbaepmbgoobaa
