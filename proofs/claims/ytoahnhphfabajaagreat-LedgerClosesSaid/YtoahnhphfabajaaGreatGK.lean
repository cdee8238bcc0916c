/- Sums, and rows of sums, that came in. -/
import Derived.Test.YtoahnhphfabajaaGreatGB
import Derived.Test.YtoahnhphfabajaaGreatGI
import Derived.WideKeyArr2
namespace Go.Proofs.YtoahnhphfabajaaGreat
set_option maxRecDepth 10000
open Go.RowKit Go.WideShapes
set_option linter.unusedVariables false
set_option maxRecDepth 10000
set_option linter.unusedSimpArgs false
set_option linter.unnecessarySimpa false

theorem mapM_each {α β : Type} (f : α → Option β) : ∀ (L : List α) (ys : List β), L.mapM f = some ys → ∀ i ∈ L, ∃ y, f i = some y
  | [], _, _, i, hi => by simp at hi
  | a :: L, ys, h, i, hi => by
    rw [List.mapM_cons] at h
    simp only [bind, Option.bind_eq_some_iff, pure, Option.some.injEq] at h
    obtain ⟨y, hy, zs, hzs, _⟩ := h
    rcases List.mem_cons.1 hi with rfl | hi
    · exact ⟨y, hy⟩
    · exact mapM_each f L zs hzs i hi
def byteOf : Value → UInt8
  | .int _ n => UInt8.ofNat n.toNat
  | _ => 0
section
variable {H : Type} {enc : TypeId × Value → H} {w : World}
theorem csz_hash : Tryz.prog.cellsOf 53 = 32 := by kernel_rfl
theorem csz_u8 : Tryz.prog.cellsOf 5 = 1 := by kernel_rfl
theorem hash_of_trod {held : Bool} {fuel : Nat} {cs : List Value} {x : DataW H × List MemPlace} (h : DataW.trod enc Tryz.prog w 0 (fun _ => true) held fuel 53 cs = some x) :
    ∃ hh : List UInt8, cs = bvs hh ∧ hh.length = 32 := by
  cases fuel with
  | zero => simp [DataW.trod] at h
  | succ m =>
    rw [DataW.trod_step] at h
    unfold DataW.trodStep at h
    simp only [und_hash] at h
    split at h
    · rename_i hl
      rw [csz_hash] at hl
      simp only [Option.map_eq_some_iff] at h
      obtain ⟨ys, hy, _⟩ := h
      have key : ∀ i, i < 32 → ∃ a : Int, cs[i]? = some (.int .u8 a) ∧ 0 ≤ a ∧ a ≤ 255 := by
        intro i hi
        obtain ⟨y, hy⟩ := mapM_each _ _ _ hy i (by simpa using hi)
        obtain ⟨a, ea, _, wa⟩ := DataW.trod_int und_u8 hy
        rw [csz_u8, Nat.mul_one] at ea
        refine ⟨a, ?_, bounds_u8 wa⟩
        have h0 := congrArg (fun l => l[0]?) ea
        simpa using h0
      refine ⟨cs.map byteOf, ?_, by simpa using hl⟩
      apply List.ext_getElem?
      intro i
      by_cases hi : i < 32
      · obtain ⟨a, h1, h2, h3⟩ := key i hi
        rw [h1]
        simp only [bvs, List.getElem?_map, h1, Option.map_some, byteOf, u8v]
        congr 2
        rw [UInt8.toNat_ofNat', Nat.mod_eq_of_lt (by omega), Int.toNat_of_nonneg h2]
      · rw [List.getElem?_eq_none (by omega), List.getElem?_eq_none (by simp [bvs]; omega)]
    · cases h
theorem hashes_of_trod {base : Nat} {v : Value} {d : DataW H} {p : List MemPlace} (hval : Value.okWide Tryz.prog w .any base 68 v) (h : DataW.Trod enc Tryz.prog w 0 (fun _ => true) true 68 v d p) : ∃ hs, Hs w w.heap.size v hs := by
  obtain ⟨A, len, cap, rfl⟩ := okWide_slice Tryz.underlying68 hval
  obtain ⟨fuel, hf⟩ := h
  obtain ⟨A', n, c, css, e1, hcl, hel, hsl⟩ := slice_of_trod Tryz.underlying68 csz_hash (by omega) hf
  simp [Value.cells] at e1
  obtain ⟨rfl, rfl, rfl⟩ := e1
  obtain ⟨hs, hn, hcs, hg⟩ := choose_all bvs (fun h => h.length = 32) hcl (fun j hj => by
    obtain ⟨fu, y, _, hy⟩ := hel j hj
    exact hash_of_trod hy)
  rw [hcs] at hsl
  refine ⟨hs, ?_, hg⟩
  rw [hn]
  have e : (hs.map bvs).flatten = hcells hs := by unfold hcells; rw [List.flatMap_def]
  rw [e] at hsl
  exact hsl
theorem hash_of_val {base : Nat} {v : Value} {d : DataW H} {p : List MemPlace} (hval : Value.okWide Tryz.prog w .any base 53 v) (h : DataW.Trod enc Tryz.prog w 0 (fun _ => true) true 53 v d p) : ∃ hh : List UInt8, v = .agg (bvs hh).toArray ∧ hh.length = 32 := by
  simp only [Value.okWide, und_hash] at hval
  obtain ⟨cs, rfl, _⟩ := hval
  obtain ⟨fuel, hf⟩ := h
  obtain ⟨hh, e, hl⟩ := hash_of_trod hf
  refine ⟨hh, ?_, hl⟩
  simp only [Value.cells] at e
  rw [← e]
end
end Go.Proofs.YtoahnhphfabajaaGreat
