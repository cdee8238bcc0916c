/- A struct of a number and a row, built of its two parts. -/
import Derived.Test.YtdhbaepmbgoobaaTurns
import Derived.Great.BuildSlice
namespace Go.Proofs.Ytdhbaepmbgoobaa
open Go.RowKit
set_option linter.unusedVariables false
set_option maxRecDepth 10000
set_option linter.unusedSimpArgs false

theorem foldl_fill (l : List Value) : ∀ (k : Nat) (A : Array Value), (l.zipIdx k).foldl (fun c x => c.setIfInBounds (1 + x.2) x.1) A = (spl A.toList (1 + k) l).toArray := by
  induction l with
  | nil => intro k A; simp [spl]
  | cons v l ih =>
    intro k A
    rw [List.zipIdx_cons, List.foldl_cons, ih (k + 1), spl]
    congr 1
    simp [Nat.add_assoc]
theorem spl_tail (v : Value) (cs Z : List Value) (hZ : Z.length = 1 + cs.length) : spl (Z.set 0 v) 1 cs = v :: cs := by
  apply List.ext_getElem?
  intro k
  cases k with
  | zero => rw [spl_out _ _ _ _ (by omega), List.getElem?_set_self (by omega)]; rfl
  | succ k =>
    by_cases hk : k < cs.length
    · rw [Nat.add_comm k 1, spl_in _ _ _ _ hk (by rw [List.length_set]; omega), Nat.add_comm 1 k]; simp
    · rw [spl_out _ _ _ _ (by omega), List.getElem?_eq_none (by rw [List.length_set]; omega), List.getElem?_eq_none (by simp; omega)]
theorem fill_pair (v : Value) (cs : List Value) (Z : Array Value) (hZ : Z.size = 1 + cs.length) :
    List.foldl (fun c x => c.setIfInBounds (1 + x.2) x.1) (Z.setIfInBounds 0 v) cs.zipIdx = (v :: cs).toArray := by
  rw [foldl_fill cs 0, ← spl_tail v cs Z.toList (by simpa using hZ)]
  simp

theorem foldl_fill0 (l : List Value) : ∀ (k o : Nat) (A : Array Value), (l.zipIdx k).foldl (fun c x => c.setIfInBounds (o + x.2) x.1) A = (spl A.toList (o + k) l).toArray := by
  induction l with
  | nil => intro k o A; simp [spl]
  | cons v l ih =>
    intro k o A
    rw [List.zipIdx_cons, List.foldl_cons, ih (k + 1), spl]
    congr 1
    simp [Nat.add_assoc]
theorem spl_all (cs Z : List Value) (hZ : Z.length = cs.length) : spl Z 0 cs = cs := by
  apply List.ext_getElem?
  intro k
  by_cases hk : k < cs.length
  · have := spl_in cs Z 0 k hk (by omega)
    rwa [Nat.zero_add] at this
  · rw [spl_out _ _ _ _ (by omega), List.getElem?_eq_none (by omega), List.getElem?_eq_none (by omega)]
/-- A slice literal of one element of many cells. -/
theorem build_one {P : Program} {t e : TypeId} {z : Value} {size bytes : Nat} (T : SliceTy P t e z size bytes) (hs : size ≤ 1000) (cells : List Value) (hc : cells.length = size) (w : World) :
    (Instr.buildSlice t 1 #[(0, .agg cells.toArray)]).run P w = .ok (.slice (some ⟨w.heap.size, 0, none⟩) 1 1) (w.alloc (.cells cells.toArray e)) := by
  have hpos := T.pos
  have key : ∀ Zr : Array Value, Zr.size = size → Instr.fill (fun i => some (i * size, size)) Zr [(0, .agg cells.toArray)] = some cells.toArray := by
    intro Zr hZ
    simp only [Instr.fill, Value.cells, Nat.zero_mul, List.size_toArray, hc, hZ]
    rw [if_neg (by simp)]
    congr 1
    have h := foldl_fill0 cells 0 0 Zr
    rw [Nat.zero_add, spl_all cells Zr.toList (by simpa [hc] using hZ)] at h
    refine Eq.trans ?_ h
    simp
  obtain ⟨i, hi, hz, hsz, hby⟩ := info_parts T.info
  refine run_buildSlice w t e 1 _ cells.toArray i z T.und hi hz (by rw [hsz]; omega) (by rw [hsz]; omega) ?_
  rw [hsz]
  refine key _ ?_
  simp
/-- The same, at the operation. -/
theorem wp_build_one {P : Program} {t e : TypeId} {z : Value} {size bytes : Nat} (T : SliceTy P t e z size bytes) (hs : size ≤ 1000) (cells : List Value) (hc : cells.length = size) {o : Oper} {a : Act} {w : World} {K : Act → World → Prop} {Q : Exit → Act → World → Prop} (x : Operand)
    (ho : o.op = .buildSlice t 1 #[(0, x)]) (hx : a.eval x = .agg cells.toArray) (h : K (a.put o.dst (.slice (some ⟨w.heap.size, 0, none⟩) 1 1)) (w.alloc (.cells cells.toArray e))) : o.wp P a w K Q := by
  have hr := build_one T hs cells hc w
  unfold Oper.wp execOp
  simp only [ho, Sem.run_bind, Sem.run_pure, Result.andThen_ok, List.map_toArray, List.map_cons, List.map_nil, hx, hr]
  exact h
end Go.Proofs.Ytdhbaepmbgoobaa
