/- What the later texts need of those about own rows, arguments and digests. -/
import Derived.Test.YtoahnhphfabajaaGreatLdH
import Derived.Test.YtoahnhphfabajaaGreatGD
import Derived.Test.YtoahnhphfabajaaGreatGK
import Derived.Deep.CutBlock
import Derived.Great.BuildSlice
namespace Go.Proofs.YtoahnhphfabajaaGreat
open Go.RowKit
set_option linter.unusedVariables false
set_option maxRecDepth 10000
set_option linter.unusedSimpArgs false
set_option linter.unnecessarySimpa false

theorem TChg : SliceTy Tryz.prog 43 67 (.agg #[.string ⟨#[]⟩, .int .i64 0, .slice none 0 0]) 3 48 := ⟨Tryz.underlying43, by kernel_rfl, rfl, by omega⟩
theorem TTx : SliceTy Tryz.prog 25 45 (.agg #[.int .i64 0, .slice none 0 0]) 2 32 := ⟨Tryz.underlying25, by kernel_rfl, rfl, by omega⟩
theorem TTxs : SliceTy Tryz.prog 27 25 (.slice none 0 0) 1 24 := ⟨Tryz.underlying27, by kernel_rfl, rfl, by omega⟩
def blo0 : Blo := ⟨0, zeros 32, zeros 32, 0⟩
theorem TBlo : SliceTy Tryz.prog 26 70 (.agg blo0.cells.toArray) 66 80 := ⟨Tryz.underlying26, by kernel_rfl, rfl, by omega⟩
/-- Blocks that were there already, and are not of L, are as they were. -/
theorem Turns.keepsB {L : List Nat} {w w' : World} (t : Turns L w w') (S : Nat → Prop) (h : ∀ x ∈ L, x < w.heap.size → ¬ S x) : Keeps S w w' :=
  ⟨t.size, fun k hk hs => t.block k hk (fun hm => h k hm hk hs)⟩
section
variable {α : Type} {R : World → (Nat → Prop) → List Value → α → Prop} {w w' : World} {S S' : Nat → Prop} {size g n k : Nat} {t : TypeId} {l : List α}
end
open Go.RowKit
set_option linter.unusedVariables false
set_option linter.unusedSimpArgs false
set_option linter.unnecessarySimpa false

/-- A deep row whose own block may be written: its elements lie in S. -/
def DeepO {α : Type} (R : World → (Nat → Prop) → List Value → α → Prop) (w : World) (S : Nat → Prop) (size base : Nat) (e : TypeId) (v : Value) (l : List α) : Prop :=
  ∃ css : List (List Value), css.length = l.length ∧ (∀ c ∈ css, c.length = size) ∧ (∀ i (h : i < l.length) (h' : i < css.length), R w S css[i] l[i]) ∧ w.ownsRow base e size v l.length css.flatten
section
variable {α : Type} {R : World → (Nat → Prop) → List Value → α → Prop} {w w' : World} {S S' : Nat → Prop} {size base g n : Nat} {e : TypeId} {v : Value} {l : List α}
theorem DeepO.keep (hR : Lasts R) {L : List Nat} (h : DeepO R w S size base e v l) (t : Turns L w w') (hS : ∀ x ∈ L, x < w.heap.size → ¬ S x) (hv : ∀ x ∈ L, v.ownBlock ≠ some x) : DeepO R w' S size base e v l := by
  obtain ⟨css, h1, h2, h3, h4⟩ := h
  exact ⟨css, h1, h2, fun i hi hi' => hR.keep (h3 i hi hi') (t.keepsB S hS), own_vL h4 t hv⟩
theorem DeepO.mono (hR : Lasts R) (h : DeepO R w S size base e v l) (hS : ∀ k, k < w.heap.size → S k → S' k) {base' : Nat} (hb : base' ≤ base) : DeepO R w S' size base' e v l := by
  obtain ⟨css, h1, h2, h3, h4⟩ := h
  exact ⟨css, h1, h2, fun i hi hi' => hR.mono (h3 i hi hi') hS, own_more h4 hb⟩
theorem DeepO.deep (hR : Lasts R) (h : DeepO R w S size base e v l) (hS : ∀ k, k < w.heap.size → S k → S' k) (hv : ∀ k, v.ownBlock = some k → S' k) : Deep R w S' size v l := by
  obtain ⟨css, h1, h2, h3, h4⟩ := h
  exact Deep.mk' h1 h2 (fun i hi hi' => hR.mono (h3 i hi hi') hS) (SlS.of_own h4 hv)
theorem DeepO.own (h : DeepO R w S size base e v l) : ∃ xs, w.ownsRow base e size v l.length xs := by obtain ⟨css, _, _, _, h4⟩ := h; exact ⟨_, h4⟩
theorem DeepO.lt (h : DeepO R w S size base e v l) (k : Nat) (hk : v.ownBlock = some k) : base ≤ k ∧ k < w.heap.size := by obtain ⟨xs, h⟩ := h.own; exact h.lt k hk
end

open Go.RowKit
set_option linter.unusedVariables false
set_option linter.unusedSimpArgs false
set_option linter.unnecessarySimpa false

/-- Blocks from B on, below M, that are none of those values' own. -/
def SX (B M : Nat) (vs : List Value) : Nat → Prop := fun b => B ≤ b ∧ b < M ∧ ∀ v ∈ vs, v.ownBlock ≠ some b
theorem size_led (a b c d : Value) : (Tryz.prog.info? 29).map (·.size) = some ([a, b, c, d] : List Value).length := by kernel_rfl
open Go.RowKit
set_option linter.unusedVariables false
set_option linter.unusedSimpArgs false
set_option linter.unnecessarySimpa false

set_option maxRecDepth 100000 in
theorem built_blo (n c : Int) (r : List UInt8) (h : r.length = 32) : Tryz.prog.built 70 [(0, .int .i64 n), (2, .agg (bvs r).toArray), (3, .int .i64 c)] = some (Blo.cells ⟨n, zeros 32, r, c⟩).toArray := by
  match r, h with
  | [a0, a1, a2, a3, a4, a5, a6, a7, a8, a9, a10, a11, a12, a13, a14, a15, a16, a17, a18, a19, a20, a21, a22, a23, a24, a25, a26, a27, a28, a29, a30, a31], _ => show _ = _; kernel_rfl
set_option maxRecDepth 100000 in
theorem built_rblo (n c : Int) (r : List UInt8) (h : r.length = 32) : Tryz.prog.built 75 [(0, .int .i64 n), (2, .agg (bvs r).toArray), (3, .int .i64 c)] = some (Blo.cells ⟨n, zeros 32, r, c⟩).toArray := by
  match r, h with
  | [a0, a1, a2, a3, a4, a5, a6, a7, a8, a9, a10, a11, a12, a13, a14, a15, a16, a17, a18, a19, a20, a21, a22, a23, a24, a25, a26, a27, a28, a29, a30, a31], _ => show _ = _; kernel_rfl
/-- A digest's cells. -/
def digCells (n : Int) (h : List UInt8) : List Value := .int .i64 n :: bvs h
set_option maxRecDepth 100000 in
theorem built_dig (n : Int) (r : List UInt8) (h : r.length = 32) : Tryz.prog.built 55 [(0, .int .i64 n), (1, .agg (bvs r).toArray)] = some (digCells n r).toArray := by
  match r, h with
  | [a0, a1, a2, a3, a4, a5, a6, a7, a8, a9, a10, a11, a12, a13, a14, a15, a16, a17, a18, a19, a20, a21, a22, a23, a24, a25, a26, a27, a28, a29, a30, a31], _ => show _ = _; kernel_rfl
theorem zero_rblo : (Tryz.prog.info? 75).bind (·.zero) = some (.agg blo0.cells.toArray) := by kernel_rfl
theorem zero_dig : (Tryz.prog.info? 55).bind (·.zero) = some (.agg (digCells 0 (zeros 32)).toArray) := by kernel_rfl
theorem size_dig (n : Int) (r : List UInt8) (h : r.length = 32) : (Tryz.prog.info? 55).map (·.size) = some (digCells n r).length := by
  rw [show (digCells n r).length = 33 by simp [digCells, bvs_length, h]]; kernel_rfl
theorem blo0_ok : blo0.ok := ⟨zeros_length 32, zeros_length 32⟩
theorem blo_len (n c : Int) (p r : List UInt8) (hp : p.length = 32) (hr : r.length = 32) : (Blo.cells ⟨n, p, r, c⟩).length = 66 := Blo.cells_len ⟨hp, hr⟩
/-- The sum ahead is set. -/
theorem spl_prev (n c : Int) (p p' r : List UInt8) (hp : p.length = 32) (hp' : p'.length = 32) : spl (Blo.cells ⟨n, p, r, c⟩) 1 (bvs p') = Blo.cells ⟨n, p', r, c⟩ := by
  have hl : (Blo.cells ⟨n, p, r, c⟩).length = 34 + r.length := by simp [Blo.cells, bvs_length, hp]; omega
  apply List.ext_getElem?
  intro k
  rcases Nat.lt_or_ge k 1 with h | h
  · rw [spl_out _ _ _ _ (.inl h)]
    obtain rfl : k = 0 := by omega
    rfl
  · rcases Nat.lt_or_ge k 33 with h2 | h2
    · obtain ⟨j, rfl⟩ : ∃ j, k = 1 + j := ⟨k - 1, by omega⟩
      rw [spl_in _ _ _ _ (by rw [bvs_length, hp']; omega) (by rw [bvs_length, hp', hl]; omega)]
      unfold Blo.cells
      rw [Nat.add_comm, List.getElem?_cons_succ, List.append_assoc, List.getElem?_append_left (by rw [bvs_length, hp']; omega)]
    · rw [spl_out _ _ _ _ (.inr (by rw [bvs_length, hp']; omega))]
      obtain ⟨j, rfl⟩ : ∃ j, k = (32 + j) + 1 := ⟨k - 33, by omega⟩
      unfold Blo.cells
      have g : ∀ q : List UInt8, q.length = 32 → (bvs q ++ (bvs r ++ [Value.int .i64 c]))[32 + j]? = (bvs r ++ [Value.int .i64 c])[j]? := by
        intro q hq
        rw [List.getElem?_append_right (by rw [bvs_length, hq]; omega), bvs_length, hq, Nat.add_sub_cancel_left]
      rw [List.getElem?_cons_succ, List.getElem?_cons_succ, List.append_assoc, List.append_assoc]
      exact (g p hp).trans (g p' hp').symm
theorem lastH_nil : lastH [] = zeros 32 := rfl
theorem lastH_get (l : List Blo) (h : 0 < l.length) : lastH l = bloH (l[l.length - 1]'(by omega)) := by
  unfold lastH
  rw [List.getLast?_eq_getElem?, List.getElem?_eq_getElem (show l.length - 1 < l.length by omega)]

section
variable {o : Oper} {a : Act} {w : World} {K : Act → World → Prop} {Q : Exit → Act → World → Prop} {t e : TypeId} {z : Value} {size bytes : Nat}
/-- A slice literal of one struct, whose cells stay as they are. -/
theorem wp_build_one (T : SliceTy Tryz.prog t e z size bytes) (h0 : 0 < size) (h9 : size ≤ 1000) (cs : List Value) (hcs : cs.length = size) (x : Operand) (ho : o.op = .buildSlice t 1 #[(0, x)]) (hx : a.eval x = .agg cs.toArray)
    (h : K (a.put o.dst (.slice (some ⟨w.heap.size, 0, none⟩) 1 1)) (w.alloc (.cells cs.toArray e))) : o.wp Tryz.prog a w K Q := by
  obtain ⟨ie, hi, hz, hs, _⟩ := info_parts T.info
  refine wp_buildSlice t e 1 _ ho cs.toArray ie z T.und hi hz (by rw [hs]; omega) (by rw [hs]; omega) ?_ h
  rw [hs]
  have hf := Great.fill_whole (s := size) h0 [Value.agg cs.toArray] ((Array.range (1 * size)).map (z.cells[· % z.cells.size]!)) (by intro v hv; simp at hv; subst hv; simp [Value.cells, hcs]) (by simp)
  simpa [hx, Value.cells] using hf
theorem wpList_build_one {ops : Array Oper} {rest : List Oper} (hg : o.guard = none) (T : SliceTy Tryz.prog t e z size bytes) (h0 : 0 < size) (h9 : size ≤ 1000) (cs : List Value) (hcs : cs.length = size) (x : Operand) (ho : o.op = .buildSlice t 1 #[(0, x)]) (hx : a.eval x = .agg cs.toArray)
    (h : wpList Tryz.prog ops Q rest (a.put o.dst (.slice (some ⟨w.heap.size, 0, none⟩) 1 1)) (w.alloc (.cells cs.toArray e))) : wpList Tryz.prog ops Q (o :: rest) a w :=
  wpList_plain hg fun _ hK => wp_build_one T h0 h9 cs hcs x ho hx (hK _ _ h)
theorem yieldsIf_build {ops : Array Oper} {S : World → Prop} (hw : Region.wanted o (yielded ops a.tmps) = true) (ty : TypeId) (parts : Array (Nat × Operand)) (ho : o.op = .build ty parts) (cells : Array Value)
    (hb : Tryz.prog.built ty (parts.map fun (i, x) => (i, a.eval x)).toList = some cells) : YieldsIf Tryz.prog ops S o (.agg cells) a :=
  .inl ⟨hw, fun w _ => by
    unfold execOp
    simp only [ho, Sem.run_bind, run_build w ty _ _ hb, Result.andThen_ok, Sem.run_pure]⟩
end
/-- A row of one's own grows by one element that was just laid into a block of its own. -/
theorem own_push {t e : TypeId} {z : Value} {size bytes base n : Nat} {w : World} {v : Value} {xs : List Value} (T : SliceTy Tryz.prog t e z size bytes) (h : w.ownsRow base e size v n xs) {cs : List Value} (hcs : cs.length = size) (h1 : ∀ u ∈ cs, u.oneCell' = true)
    (hb : base ≤ w.heap.size) (hn : n ≤ 1000000) (hbs : bytes ≤ 100) (ty : TypeId) :
    ∃ A' c' w', (Builtin.append_ #[t, t] ty #[v, .slice (some ⟨w.heap.size, 0, none⟩) 1 1]).run Tryz.prog (w.alloc (.cells cs.toArray e)) = .ok (.slice A' (n + 1) c') w' ∧ w'.ownsRow base e size (.slice A' (n + 1) c') (n + 1) (xs ++ cs) ∧ Turns v.ownBlock.toList w w' ∧
      (∀ k, (Value.slice A' (n + 1) c').ownBlock = some k → v.ownBlock = some k ∨ w.heap.size ≤ k) := by
  have ho := h.alloc (.cells cs.toArray e)
  obtain ⟨v', w', hr, ap⟩ := run_append_rd (P := Tryz.prog) _ T ty ho (Sl.new w cs.toArray e 1 size (by simp [hcs]) (by simp [maxLen])) (by simpa using h1) (by simp only [maxLen]; omega) (by have := Nat.mul_le_mul (show n + 1 ≤ 1000001 by omega) hbs; omega) (by simp; omega)
  have t2 : Turns v.ownBlock.toList w w' := Turns.trans (L' := v.ownBlock.toList) ((Turns.refl _ w).alloc _) (Turns.of_grown ap.grown (by intro k hk; exact .inl (by simpa using hk))) (fun k hk => .inl hk)
  have hown := ap.own
  rw [show cs.toArray.toList = cs by simp] at hown
  obtain ⟨A', c', rfl⟩ := own_formV hown
  refine ⟨A', c', w', hr, hown, t2, fun k hk => ?_⟩
  rcases ap.lies with h | ⟨g, hg, hge⟩
  · exact .inl (by rw [← h]; exact hk)
  · rw [hg] at hk
    injection hk with hk
    subst hk
    simp at hge
    exact .inr (by omega)
open Go.RowKit
set_option linter.unusedVariables false
set_option linter.unusedSimpArgs false
set_option linter.unnecessarySimpa false

theorem SX_not {B M : Nat} {vs : List Value} {v : Value} (hv : v ∈ vs) {k : Nat} (hk : v.ownBlock = some k) : ¬ SX B M vs k := fun h => h.2.2 v hv hk
open Go.RowKit
set_option linter.unusedVariables false
set_option linter.unusedSimpArgs false
set_option linter.unnecessarySimpa false

theorem results_cells2 {P : Program} {fn : Func} {p q : Tmp} {ty ty2 : TypeId} (h : fn.results = #[.cell p ty, .cell q ty2]) (tmps : Array Value) (w : World) (g g2 : Nat) (t t2 : TypeId) (cs ds : List Value) (d d2 : TypeDesc)
    (hp : tmps.getD p undef = .pointer (some ⟨g, 0, none⟩)) (hq : tmps.getD q undef = .pointer (some ⟨g2, 0, none⟩)) (hg : Blk w g cs t) (hg2 : Blk w g2 ds t2)
    (hu : P.underlying ty = some d) (hd : (match d with | .struct _ | .array _ _ => true | _ => false) = true) (hi : (P.info? ty).map (·.size) = some cs.toArray.size)
    (hu2 : P.underlying ty2 = some d2) (hd2 : (match d2 with | .struct _ | .array _ _ => true | _ => false) = true) (hi2 : (P.info? ty2).map (·.size) = some ds.toArray.size) :
    (results fn tmps).run P w = .ok (.tuple #[.agg cs.toArray, .agg ds.toArray]) w := by
  have hp' : tmps[p]?.getD undef = .pointer (some ⟨g, 0, none⟩) := by simpa using hp
  have hq' : tmps[q]?.getD undef = .pointer (some ⟨g2, 0, none⟩) := by simpa using hq
  simp [results, h, hp', hq', asAddr, run_loadVar_row w g t ty cs.toArray (0, 0) d hg hu hd hi, run_loadVar_row w g2 t2 ty2 ds.toArray (0, 0) d2 hg2 hu2 hd2 hi2]

theorem closeL_ok {L : Led} (h : L.ok) (hr : L.blks.length < 100000 ∧ L.txs.length < 100000) : (closeL L).ok := by
  refine ⟨h.next, by simp [closeL], by simp [closeL]; omega, by simp [closeL]; omega, by simp [closeL], ?_, ?_, ?_⟩
  · intro b hb
    rcases List.mem_append.1 hb with hb | hb
    · exact h.blo b hb
    · simp at hb; subst hb; exact newBlo_ok _ _
  · intro l hl
    rcases List.mem_append.1 hl with hl | hl
    · exact h.tl l hl
    · simp at hl; subst hl; exact h.opn
  · intro l hl
    rcases List.mem_append.1 hl with hl | hl
    · exact h.tt l hl
    · simp at hl; subst hl; exact h.otx
open Go.RowKit
set_option linter.unusedVariables false
set_option linter.unusedSimpArgs false
set_option linter.unnecessarySimpa false

theorem pushL_ok {L : Led} (h : L.ok) {c : List Chg} (hc : c.length ≤ 1000 ∧ ∀ x ∈ c, x.ok) (h1 : L.next < 100000) (h2 : L.opn.length < 1000) : (pushL L c).ok := by
  have := h.next
  refine ⟨⟨by simp [pushL]; omega, by simp [pushL]; omega⟩, by simp [pushL]; omega, h.blks, h.txs, ?_, h.blo, h.tl, h.tt⟩
  intro t ht
  rcases List.mem_append.1 ht with ht | ht
  · exact h.otx t ht
  · simp at ht; subst ht; exact ⟨⟨by show _ ≤ L.next; omega, by show L.next ≤ _; omega⟩, hc.1, hc.2⟩
open Go.RowKit
set_option linter.unusedVariables false
set_option linter.unusedSimpArgs false
set_option linter.unnecessarySimpa false

theorem led0_ok : led0.ok := ⟨⟨by show (0 : Int) ≤ 0; omega, by show (0 : Int) ≤ 100000; omega⟩, by show (0 : Nat) ≤ 1000; omega, by show (0 : Nat) ≤ 100000; omega, by show (0 : Nat) ≤ 100000; omega, (by intro t h; cases h), (by intro t h; cases h), (by intro t h; cases h), (by intro t h; cases h)⟩
open Go.RowKit Go.WideShapes
set_option linter.unusedVariables false
set_option linter.unusedSimpArgs false
set_option linter.unnecessarySimpa false

/-- A step of the statements. -/
structure Stp where
  n : Int
  op : Int
  name : ByteArray
  v : List Val
structure Stp.fits (s : Stp) : Prop where
  n : i64ok s.n
  op : i64ok s.op
  name : s.name.size ≤ maxLen
  v : ∀ x ∈ s.v, x.fits
def StpR (w : World) (S : Nat → Prop) (cs : List Value) (s : Stp) : Prop := ∃ rv, cs = [.int .i64 s.n, .int .i64 s.op, .string s.name, rv] ∧ SlS w S 3 rv s.v.length (valCells s.v)
theorem StpR.lasts : Lasts StpR := ⟨fun ⟨rv, e, h⟩ k => ⟨rv, e, h.keep k⟩, fun ⟨rv, e, h⟩ hS => ⟨rv, e, h.mono hS⟩⟩
section
variable {H : Type} {enc : TypeId × Value → H} {w : World}
end

end Go.Proofs.YtoahnhphfabajaaGreat
