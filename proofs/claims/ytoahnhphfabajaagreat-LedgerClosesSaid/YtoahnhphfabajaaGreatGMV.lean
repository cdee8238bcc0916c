/- The document's check, walked: led, Check. The document's Check, walked. -/
import Derived.Test.YtoahnhphfabajaaGreatGJ
import Derived.Laws.ResultCell
import Derived.Test.YtoahnhphfabajaaGreatGB
namespace Go.Proofs.YtoahnhphfabajaaGreat
set_option maxRecDepth 10000
open Go.RowKit
set_option linter.unusedVariables false
set_option maxRecDepth 10000
set_option linter.unusedSimpArgs false
set_option linter.unnecessarySimpa false

theorem results_two {P : Program} {fn : Func} {p u : Tmp} {ty : TypeId} (h : fn.results = #[.cell p ty, .tmp u]) (tmps : Array Value) (w : World) (g : Nat) (t : TypeId) (cs : List Value) (d : TypeDesc) (x : Value)
    (hp : tmps.getD p undef = .pointer (some ⟨g, 0, none⟩)) (hx : tmps.getD u undef = x) (hg : Blk w g cs t)
    (hu : P.underlying ty = some d) (hd : (match d with | .struct _ | .array _ _ => true | _ => false) = true) (hi : (P.info? ty).map (·.size) = some cs.toArray.size) :
    (results fn tmps).run P w = .ok (.tuple #[.agg cs.toArray, x]) w := by
  rw [results_cell_tmp h tmps P w, hp, hx]
  simp [asAddr, run_loadVar_row w g t ty cs.toArray (0, 0) d hg hu hd hi]
theorem wp_alloc_arr {P : Program} {o : Oper} {a : Act} {w : World} {K : Act → World → Prop} {Q : Exit → Act → World → Prop} (ty : TypeId) (ho : o.op = .alloc ty) (zs : Array Value) (hz : (P.info? ty).bind (·.zero) = some (.agg zs))
    (h : K (a.put o.dst (.pointer (some ⟨w.heap.size, 0, none⟩))) (w.alloc (.cells zs ty))) : o.wp P a w K Q := by
  unfold Oper.wp execOp
  simp only [ho, Sem.run_bind, Sem.run_pure, run_alloc_arr w ty zs hz, Result.andThen_ok]
  exact h
def LedP (h : List UInt8) (i n : Nat) (p : List (List UInt8)) (x : List UInt8) (is : Bool) : Prop := x.length = 32 ∧ is = ((mway i n).length == p.length) ∧ (is = true → x = mled h i n p)
theorem LedP.one {h : List UInt8} (hh : h.length = 32) (i : Nat) (p : List (List UInt8)) (is : Bool) (hi : is = (p.length == 0)) : LedP h i 1 p h is := by
  refine ⟨hh, by rw [mway_few i 1 (by omega), hi]; cases p <;> rfl, fun _ => ?_⟩
  unfold mled
  rw [mway_few i 1 (by omega)]; rfl
theorem LedP.none {h : List UInt8} (hh : h.length = 32) (i n : Nat) (h2 : 2 ≤ n) : LedP h i n [] h false := by
  refine ⟨hh, ?_, fun h => by cases h⟩
  by_cases hi : i < mcut n
  · rw [mway_left i n h2 hi]; simp
  · rw [mway_right i n h2 hi]; simp
theorem LedP.left {h : List UInt8} {i n : Nat} {p : List (List UInt8)} {x l : List UInt8} {is : Bool} (h2 : 2 ≤ n) (hi : i < mcut n) (hl : LedP h i (mcut n) p x is) : LedP h i n (p ++ [l]) (twoH x l) is := by
  obtain ⟨a, b, c⟩ := hl
  refine ⟨twoH_len _ _, by rw [mway_left i n h2 hi, b]; simp, fun hh => ?_⟩
  have := c hh
  rw [hh] at b
  rw [mled_left h i n p l h2 hi (by simpa using b.symm), ← this]
theorem LedP.right {h : List UInt8} {i n : Nat} {p : List (List UInt8)} {x l : List UInt8} {is : Bool} (h2 : 2 ≤ n) (hi : ¬ i < mcut n) (hl : LedP h (i - mcut n) (n - mcut n) p x is) : LedP h i n (p ++ [l]) (twoH l x) is := by
  obtain ⟨a, b, c⟩ := hl
  refine ⟨twoH_len _ _, by rw [mway_right i n h2 hi, b]; simp, fun hh => ?_⟩
  have := c hh
  rw [hh] at b
  rw [mled_right h i n p l h2 hi (by simpa using b.symm), ← this]

end Go.Proofs.YtoahnhphfabajaaGreat
namespace Go.Proofs.YtoahnhphfabajaaGreat
set_option maxRecDepth 10000
open Go.RowKit
set_option linter.unusedVariables false
set_option linter.unusedSimpArgs false
set_option linter.unnecessarySimpa false

/-- Whatever the numbers are. -/
theorem Check_any (root leaf : List UInt8) (hr : root.length = 32) (hf : leaf.length = 32) (i n : Int) (p : List (List UInt8)) (m : Nat) (hpm : p.length = m) (hm : m ≤ 1000) (A : Option Addr) (c B : Nat) (w : World) (h : Hs w B (.slice A m c) p) (hB : B ≤ w.heap.size) :
    Calls Tryz.prog 56 #[.agg (bvs root).toArray, .agg (bvs leaf).toArray, .int .i64 i, .int .i64 n, .slice A m c] w fun e w' => e = .returned (.bool (mcheckZ root leaf i n p)) ∧ Turns [] w w' := by
  unfold mcheckZ
  by_cases hin : n ≤ 1048576 ∧ 0 ≤ i ∧ i < n
  · rw [if_pos hin]
    obtain ⟨i', rfl⟩ := Int.eq_ofNat_of_zero_le hin.2.1
    obtain ⟨n', rfl⟩ := Int.eq_ofNat_of_zero_le (show 0 ≤ n by omega)
    exact Check_in root leaf hr hf i' n' (by omega) (by omega) p m hpm hm A c B w h hB
  · rw [if_neg hin]
    exact Check_out 0 root leaf i n (by omega) _ w
end Go.Proofs.YtoahnhphfabajaaGreat
