/- The document's check, walked: led, Check. The document's Check, walked. -/
import Derived.Test.YtoahnhphfabajaaGreatGI
import Derived.Laws.ResultCell
import Derived.Test.YtoahnhphfabajaaGreatGB
namespace Go.Proofs.YtoahnhphfabajaaGreat
set_option maxRecDepth 10000
open Go.RowKit
set_option linter.unusedVariables false
set_option maxRecDepth 10000
set_option linter.unusedSimpArgs false
set_option linter.unnecessarySimpa false

theorem results_two {P : Program} {fn : Func} {p u : Tmp} {ty : TypeId} (h : fn.results = #[.cell p ty, .tmp u]) (tmps : Array Value) (w : World) (g : Nat) (t : TypeId) (cs : List Value) (d : TypeDesc) (x : Value)
    (hp : tmps.getD p undef = .pointer (some ⟨g, 0, none⟩)) (hx : tmps.getD u undef = x) (hg : Blk w g cs t)
    (hu : P.underlying ty = some d) (hd : (match d with | .struct _ | .array _ _ => true | _ => false) = true) (hi : (P.info? ty).map (·.size) = some cs.toArray.size) :
    (results fn tmps).run P w = .ok (.tuple #[.agg cs.toArray, x]) w := by
  rw [results_cell_tmp h tmps P w, hp, hx]
  simp [asAddr, run_loadVar_row w g t ty cs.toArray (0, 0) d hg hu hd hi]
theorem wp_alloc_arr {P : Program} {o : Oper} {a : Act} {w : World} {K : Act → World → Prop} {Q : Exit → Act → World → Prop} (ty : TypeId) (ho : o.op = .alloc ty) (zs : Array Value) (hz : (P.info? ty).bind (·.zero) = some (.agg zs))
    (h : K (a.put o.dst (.pointer (some ⟨w.heap.size, 0, none⟩))) (w.alloc (.cells zs ty))) : o.wp P a w K Q := by
  unfold Oper.wp execOp
  simp only [ho, Sem.run_bind, Sem.run_pure, run_alloc_arr w ty zs hz, Result.andThen_ok]
  exact h
theorem HMine.base {W W0 w : World} {v : Value} {hs : List (List UInt8)} (t : Turns [] W W0) (h : HMine W0 w v hs) : HMine W w v hs := ⟨own_more h.own t.size, t.trans h.turns (by simp), h.all⟩
end Go.Proofs.YtoahnhphfabajaaGreat
