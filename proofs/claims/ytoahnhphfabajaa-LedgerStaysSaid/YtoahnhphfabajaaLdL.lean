/- Blocks built, set, laid side by side; rows of one's own that grow. -/
import Derived.Test.YtoahnhphfabajaaLdK
import Derived.Great.BuildSlice
namespace Go.Proofs.Ytoahnhphfabajaa
open Go.RowKit
set_option linter.unusedVariables false
set_option maxRecDepth 10000
set_option linter.unusedSimpArgs false
set_option linter.unnecessarySimpa false

set_option maxRecDepth 100000 in
theorem built_blo (n c : Int) (r : List UInt8) (h : r.length = 32) : Try.prog.built 28 [(0, .int .i64 n), (2, .agg (bvs r).toArray), (3, .int .i64 c)] = some (Blo.cells ⟨n, zeros 32, r, c⟩).toArray := by
  match r, h with
  | [a0, a1, a2, a3, a4, a5, a6, a7, a8, a9, a10, a11, a12, a13, a14, a15, a16, a17, a18, a19, a20, a21, a22, a23, a24, a25, a26, a27, a28, a29, a30, a31], _ => show _ = _; kernel_rfl
set_option maxRecDepth 100000 in
theorem built_rblo (n c : Int) (r : List UInt8) (h : r.length = 32) : Try.prog.built 39 [(0, .int .i64 n), (2, .agg (bvs r).toArray), (3, .int .i64 c)] = some (Blo.cells ⟨n, zeros 32, r, c⟩).toArray := by
  match r, h with
  | [a0, a1, a2, a3, a4, a5, a6, a7, a8, a9, a10, a11, a12, a13, a14, a15, a16, a17, a18, a19, a20, a21, a22, a23, a24, a25, a26, a27, a28, a29, a30, a31], _ => show _ = _; kernel_rfl
/-- A digest's cells. -/
def digCells (n : Int) (h : List UInt8) : List Value := .int .i64 n :: bvs h
set_option maxRecDepth 100000 in
theorem built_dig (n : Int) (r : List UInt8) (h : r.length = 32) : Try.prog.built 62 [(0, .int .i64 n), (1, .agg (bvs r).toArray)] = some (digCells n r).toArray := by
  match r, h with
  | [a0, a1, a2, a3, a4, a5, a6, a7, a8, a9, a10, a11, a12, a13, a14, a15, a16, a17, a18, a19, a20, a21, a22, a23, a24, a25, a26, a27, a28, a29, a30, a31], _ => show _ = _; kernel_rfl
theorem zero_blo : (Try.prog.info? 28).bind (·.zero) = some (.agg blo0.cells.toArray) := by kernel_rfl
theorem zero_rblo : (Try.prog.info? 39).bind (·.zero) = some (.agg blo0.cells.toArray) := by kernel_rfl
theorem zero_dig : (Try.prog.info? 62).bind (·.zero) = some (.agg (digCells 0 (zeros 32)).toArray) := by kernel_rfl
theorem size_dig (n : Int) (r : List UInt8) (h : r.length = 32) : (Try.prog.info? 62).map (·.size) = some (digCells n r).length := by
  rw [show (digCells n r).length = 33 by simp [digCells, bvs_length, h]]; kernel_rfl
theorem blo0_ok : blo0.ok := ⟨zeros_length 32, zeros_length 32⟩
theorem blo_len (n c : Int) (p r : List UInt8) (hp : p.length = 32) (hr : r.length = 32) : (Blo.cells ⟨n, p, r, c⟩).length = 66 := Blo.cells_len ⟨hp, hr⟩
/-- The sum ahead is set. -/
theorem spl_prev (n c : Int) (p p' r : List UInt8) (hp : p.length = 32) (hp' : p'.length = 32) : spl (Blo.cells ⟨n, p, r, c⟩) 1 (bvs p') = Blo.cells ⟨n, p', r, c⟩ := by
  have hl : (Blo.cells ⟨n, p, r, c⟩).length = 34 + r.length := by simp [Blo.cells, bvs_length, hp]; omega
  apply List.ext_getElem?
  intro k
  rcases Nat.lt_or_ge k 1 with h | h
  · rw [spl_out _ _ _ _ (.inl h)]
    obtain rfl : k = 0 := by omega
    rfl
  · rcases Nat.lt_or_ge k 33 with h2 | h2
    · obtain ⟨j, rfl⟩ : ∃ j, k = 1 + j := ⟨k - 1, by omega⟩
      rw [spl_in _ _ _ _ (by rw [bvs_length, hp']; omega) (by rw [bvs_length, hp', hl]; omega)]
      unfold Blo.cells
      rw [Nat.add_comm, List.getElem?_cons_succ, List.append_assoc, List.getElem?_append_left (by rw [bvs_length, hp']; omega)]
    · rw [spl_out _ _ _ _ (.inr (by rw [bvs_length, hp']; omega))]
      obtain ⟨j, rfl⟩ : ∃ j, k = (32 + j) + 1 := ⟨k - 33, by omega⟩
      unfold Blo.cells
      have g : ∀ q : List UInt8, q.length = 32 → (bvs q ++ (bvs r ++ [Value.int .i64 c]))[32 + j]? = (bvs r ++ [Value.int .i64 c])[j]? := by
        intro q hq
        rw [List.getElem?_append_right (by rw [bvs_length, hq]; omega), bvs_length, hq, Nat.add_sub_cancel_left]
      rw [List.getElem?_cons_succ, List.getElem?_cons_succ, List.append_assoc, List.append_assoc]
      exact (g p hp).trans (g p' hp').symm
theorem lastH_nil : lastH [] = zeros 32 := rfl
theorem lastH_get (l : List Blo) (h : 0 < l.length) : lastH l = bloH (l[l.length - 1]'(by omega)) := by
  unfold lastH
  rw [List.getLast?_eq_getElem?, List.getElem?_eq_getElem (show l.length - 1 < l.length by omega)]

section
variable {o : Oper} {a : Act} {w : World} {K : Act → World → Prop} {Q : Exit → Act → World → Prop} {t e : TypeId} {z : Value} {size bytes : Nat}
/-- A slice literal of one struct, whose cells stay as they are. -/
theorem wp_build_one (T : SliceTy Try.prog t e z size bytes) (h0 : 0 < size) (h9 : size ≤ 1000) (cs : List Value) (hcs : cs.length = size) (x : Operand) (ho : o.op = .buildSlice t 1 #[(0, x)]) (hx : a.eval x = .agg cs.toArray)
    (h : K (a.put o.dst (.slice (some ⟨w.heap.size, 0, none⟩) 1 1)) (w.alloc (.cells cs.toArray e))) : o.wp Try.prog a w K Q := by
  obtain ⟨ie, hi, hz, hs, _⟩ := info_parts T.info
  refine wp_buildSlice t e 1 _ ho cs.toArray ie z T.und hi hz (by rw [hs]; omega) (by rw [hs]; omega) ?_ h
  rw [hs]
  have hf := Great.fill_whole (s := size) h0 [Value.agg cs.toArray] ((Array.range (1 * size)).map (z.cells[· % z.cells.size]!)) (by intro v hv; simp at hv; subst hv; simp [Value.cells, hcs]) (by simp)
  simpa [hx, Value.cells] using hf
theorem wpList_build_one {ops : Array Oper} {rest : List Oper} (hg : o.guard = none) (T : SliceTy Try.prog t e z size bytes) (h0 : 0 < size) (h9 : size ≤ 1000) (cs : List Value) (hcs : cs.length = size) (x : Operand) (ho : o.op = .buildSlice t 1 #[(0, x)]) (hx : a.eval x = .agg cs.toArray)
    (h : wpList Try.prog ops Q rest (a.put o.dst (.slice (some ⟨w.heap.size, 0, none⟩) 1 1)) (w.alloc (.cells cs.toArray e))) : wpList Try.prog ops Q (o :: rest) a w :=
  wpList_plain hg fun _ hK => wp_build_one T h0 h9 cs hcs x ho hx (hK _ _ h)
theorem yieldsIf_build {ops : Array Oper} {S : World → Prop} (hw : Region.wanted o (yielded ops a.tmps) = true) (ty : TypeId) (parts : Array (Nat × Operand)) (ho : o.op = .build ty parts) (cells : Array Value)
    (hb : Try.prog.built ty (parts.map fun (i, x) => (i, a.eval x)).toList = some cells) : YieldsIf Try.prog ops S o (.agg cells) a :=
  .inl ⟨hw, fun w _ => by
    unfold execOp
    simp only [ho, Sem.run_bind, run_build w ty _ _ hb, Result.andThen_ok, Sem.run_pure]⟩
end
/-- A row of one's own grows by one element that was just laid into a block of its own. -/
theorem own_push {t e : TypeId} {z : Value} {size bytes base n : Nat} {w : World} {v : Value} {xs : List Value} (T : SliceTy Try.prog t e z size bytes) (h : w.ownsRow base e size v n xs) {cs : List Value} (hcs : cs.length = size) (h1 : ∀ u ∈ cs, u.oneCell' = true)
    (hb : base ≤ w.heap.size) (hn : n ≤ 1000000) (hbs : bytes ≤ 100) (ty : TypeId) :
    ∃ A' c' w', (Builtin.append_ #[t, t] ty #[v, .slice (some ⟨w.heap.size, 0, none⟩) 1 1]).run Try.prog (w.alloc (.cells cs.toArray e)) = .ok (.slice A' (n + 1) c') w' ∧ w'.ownsRow base e size (.slice A' (n + 1) c') (n + 1) (xs ++ cs) ∧ Turns v.ownBlock.toList w w' ∧
      (∀ k, (Value.slice A' (n + 1) c').ownBlock = some k → v.ownBlock = some k ∨ w.heap.size ≤ k) := by
  have ho := h.alloc (.cells cs.toArray e)
  obtain ⟨v', w', hr, ap⟩ := run_append_rd (P := Try.prog) _ T ty ho (Sl.new w cs.toArray e 1 size (by simp [hcs]) (by simp [maxLen])) (by simpa using h1) (by simp only [maxLen]; omega) (by have := Nat.mul_le_mul (show n + 1 ≤ 1000001 by omega) hbs; omega) (by simp; omega)
  have t2 : Turns v.ownBlock.toList w w' := Turns.trans (L' := v.ownBlock.toList) ((Turns.refl _ w).alloc _) (Turns.of_grown ap.grown (by intro k hk; exact .inl (by simpa using hk))) (fun k hk => .inl hk)
  have hown := ap.own
  rw [show cs.toArray.toList = cs by simp] at hown
  obtain ⟨A', c', rfl⟩ := own_formV hown
  refine ⟨A', c', w', hr, hown, t2, fun k hk => ?_⟩
  rcases ap.lies with h | ⟨g, hg, hge⟩
  · exact .inl (by rw [← h]; exact hk)
  · rw [hg] at hk
    injection hk with hk
    subst hk
    simp at hge
    exact .inr (by omega)
end Go.Proofs.Ytoahnhphfabajaa
