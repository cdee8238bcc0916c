/- Rows of sums. -/
import Derived.Test.YtibolcekhdapaaaEqH
import Derived.Deep.MidRow
import Derived.Great.BuildSlice
namespace Go.Proofs.Ytibolcekhdapaaa
open Go.RowKit
set_option linter.unusedVariables false
set_option maxRecDepth 10000
set_option linter.unusedSimpArgs false
set_option linter.unnecessarySimpa false

/-- A row of sums as cells. -/
def hcells (hs : List (List UInt8)) : List Value := hs.flatMap bvs
theorem hcells_len : ∀ (hs : List (List UInt8)), (∀ h ∈ hs, h.length = 32) → (hcells hs).length = hs.length * 32
  | [], _ => rfl
  | h :: hs, ha => by
    have ih := hcells_len hs (fun x hx => ha x (by simp [hx]))
    have h0 := ha h (by simp)
    unfold hcells at ih ⊢
    rw [List.flatMap_cons, List.length_append, ih, bvs_length, h0]
    simp; omega
theorem hcells_cons (h : List UInt8) (hs : List (List UInt8)) : hcells (h :: hs) = bvs h ++ hcells hs := by simp [hcells]
theorem hcells_append (a b : List (List UInt8)) : hcells (a ++ b) = hcells a ++ hcells b := by simp [hcells]
theorem hcells_one (hs : List (List UInt8)) : ∀ u ∈ hcells hs, u.oneCell' = true := by
  intro u hu
  obtain ⟨h, _, hu⟩ := List.mem_flatMap.1 hu
  exact bvs_one h u hu
theorem hcells_split (hs : List (List UInt8)) (k : Nat) (ha : ∀ h ∈ hs, h.length = 32) (hk : k ≤ hs.length) : (hcells hs).take (k * 32) = hcells (hs.take k) ∧ (hcells hs).drop (k * 32) = hcells (hs.drop k) := by
  have e : hcells hs = hcells (hs.take k) ++ hcells (hs.drop k) := by rw [← hcells_append, List.take_append_drop]
  have hl : (hcells (hs.take k)).length = k * 32 := by rw [hcells_len _ (fun x hx => ha x (List.mem_of_mem_take hx)), List.length_take, Nat.min_eq_left hk]
  constructor
  · rw [e, List.take_append_of_le_length (by omega), List.take_of_length_le (by omega)]
  · rw [e, ← hl, List.drop_left]
structure Hs (w : World) (B : Nat) (v : Value) (hs : List (List UInt8)) : Prop where
  sl : Sl w B 32 v hs.length (hcells hs)
  all : ∀ h ∈ hs, h.length = 32
theorem Hs.nil {w : World} {B : Nat} : Hs w B (.slice none 0 0) [] := ⟨Sl.nil, by simp⟩
theorem Hs.turns {L : List Nat} {a w : World} (t : Turns L a w) {B : Nat} {v : Value} {hs : List (List UInt8)} (h : Hs a B v hs) (hB : B ≤ a.heap.size) (hv : ∀ x ∈ L, v.ownBlock ≠ some x) : Hs w B v hs := ⟨t.slice h.sl hB hv, h.all⟩
theorem Hs.more {w : World} {B B' : Nat} {v : Value} {hs : List (List UInt8)} (h : Hs w B v hs) (hB : B ≤ B') : Hs w B' v hs := ⟨h.sl.more hB, h.all⟩
theorem Hs.drew {w : World} {B : Nat} {v : Value} {hs : List (List UInt8)} (h : Hs w B v hs) : Hs w.drew B v hs := ⟨h.sl.drew, h.all⟩
theorem Hs.form {w : World} {B : Nat} {v : Value} {hs : List (List UInt8)} (h : Hs w B v hs) : ∃ A c, v = .slice A hs.length c ∧ hs.length ≤ c ∧ c ≤ maxLen := by
  obtain ⟨_, A, c, hv, h1, h2, _⟩ := h.sl
  exact ⟨A, c, hv, h1, h2⟩
theorem Hs.to {w : World} {B n c k : Nat} {A : Option Addr} {hs : List (List UInt8)} (h : Hs w B (.slice A n c) hs) (hk : k ≤ n) : Hs w B (.slice A k c) (hs.take k) := by
  obtain ⟨⟨hl, A', c', hv, h1, h2, h3, hr⟩, ha⟩ := h
  injection hv with e1 e2 e3
  subst e1 e2 e3
  have hsp := hcells_split hs k ha hk
  have ha' : ∀ x ∈ hs.take k, x.length = 32 := fun x hx => ha x (List.mem_of_mem_take hx)
  have hlt : (hs.take k).length = k := by rw [List.length_take, Nat.min_eq_left hk]
  refine ⟨⟨hcells_len _ ha', A, c, by rw [hlt], by rw [hlt]; omega, h2, h3, ?_⟩, ha'⟩
  rw [← hsp.1]; exact hr.take _
theorem Hs.from_ {w : World} {B n c k : Nat} {A : Option Addr} {hs : List (List UInt8)} (h : Hs w B (.slice A n c) hs) (hk : k ≤ n) (hn : n = hs.length) : Hs w B (.slice (if c = k then A else A.map fun x => x.add (k * 32)) (n - k) (c - k)) (hs.drop k) := by
  obtain ⟨⟨hl, A', c', hv, h1, h2, h3, hr⟩, ha⟩ := h
  injection hv with e1 e2 e3
  subst e1 e3
  subst hn
  have hsp := hcells_split hs k ha hk
  have ha' : ∀ x ∈ hs.drop k, x.length = 32 := fun x hx => ha x (List.mem_of_mem_drop hx)
  have hlt : (hs.drop k).length = hs.length - k := by rw [List.length_drop]
  refine ⟨⟨hcells_len _ ha', _, c - k, by rw [hlt], by rw [hlt]; omega, by omega, ?_, ?_⟩, ha'⟩
  · intro h
    by_cases hck : c = k
    · omega
    · rw [if_neg hck] at h
      have : A = none := by cases A <;> simp_all
      have := h3 this
      omega
  · rw [← hsp.2]
    by_cases hck : c = k
    · rw [if_pos hck]
      have : (hcells hs).drop (k * 32) = [] := List.drop_eq_nil_of_le (by rw [hl]; exact Nat.mul_le_mul_right _ (by omega))
      rw [this]
      exact Rd.nil
    · rw [if_neg hck]
      intro hne
      obtain ⟨b, off, e, hb, hc⟩ := hr.drop (k * 32) hne
      rcases A with _ | ⟨b', off', spot'⟩
      · simp at e
      · obtain ⟨b2, off2, e2, _⟩ := hr (by intro h; rw [h] at hne; simp at hne)
        injection e2 with e2
        injection e2 with e3 e4 e5
        subst e3 e4 e5
        simp at e
        obtain ⟨rfl, rfl⟩ := e
        exact ⟨_, _, by simp [Addr.add_lit], hb, hc⟩
theorem Hs.from_own {A : Option Addr} {n c k q : Nat} : (Value.slice (if c = k then A else A.map fun x => x.add q) (n - k) (c - k)).ownBlock = (Value.slice A n c).ownBlock := by
  by_cases h : c = k
  · rw [if_pos h]; cases A <;> rfl
  · rw [if_neg h]; cases A <;> simp [Value.ownBlock, addr_block]
theorem Hs.at_ {w : World} {B n c i : Nat} {A : Option Addr} {hs : List (List UInt8)} (h : Hs w B (.slice A n c) hs) (hi : i < hs.length) : ∃ b off, A = some ⟨b, off, none⟩ ∧ b < B ∧ w.rangeAt b (off + i * 32) (bvs hs[i]) := by
  obtain ⟨⟨hl, A', c', hv, h1, h2, h3, hr⟩, ha⟩ := h
  injection hv with e1 e2 e3
  subst e1 e3
  obtain ⟨b, off, e, hb, hc⟩ := hr (by intro e; rw [e] at hl; simp at hl; omega)
  refine ⟨b, off, e, hb, fun j v hv => ?_⟩
  rw [Nat.add_assoc]
  refine hc (i * 32 + j) v ?_
  have hsp := hcells_split hs i ha (by omega)
  have hj := (List.getElem?_eq_some_iff.1 hv).1
  rw [← List.getElem?_drop, hsp.2, List.drop_eq_getElem_cons hi, hcells_cons, List.getElem?_append_left hj]
  exact hv
/-- One sum in a block of its own. -/
theorem Hs.one (w : World) (h : List UInt8) (hl : h.length = 32) (t : TypeId) : Hs (w.alloc (.cells (bvs h).toArray t)) (w.heap.size + 1) (.slice (some ⟨w.heap.size, 0, none⟩) 1 1) [h] := by
  refine ⟨?_, by intro x hx; simp at hx; subst hx; exact hl⟩
  have := Sl.new w (bvs h).toArray t 1 32 (by simp [bvs_length, hl]) (by simp [maxLen])
  simpa [hcells] using this

section
variable {o : Oper} {a : Act} {w : World} {K : Act → World → Prop} {Q : Exit → Act → World → Prop}
theorem flatMap_aggs (hs : List (List UInt8)) : ((hs.map fun h => Value.agg (bvs h).toArray).flatMap fun v => v.cells.toList) = hcells hs := by
  unfold hcells
  rw [List.flatMap_map]
  rfl
theorem info_hash : (Try.prog.info? 24).map (fun i => (i.zero, i.size)) = some (some (.agg (bvs (zeros 32)).toArray), 32) := by kernel_rfl
/-- A slice literal of sums. -/
theorem wp_build_hashes (hs : List (List UInt8)) (n : Nat) (hn : n = hs.length) (h0 : 0 < n) (hm : n ≤ 1000) (h32 : ∀ h ∈ hs, h.length = 32) (parts : Array (Nat × Operand)) (ho : o.op = .buildSlice 33 n parts)
    (hp : (parts.map fun (i, x) => (i, a.eval x)).toList = ((hs.map fun h => Value.agg (bvs h).toArray).zipIdx 0).map fun x => (x.2, x.1))
    (h : K (a.put o.dst (.slice (some ⟨w.heap.size, 0, none⟩) n n)) (w.alloc (.cells (hcells hs).toArray 24))) : o.wp Try.prog a w K Q := by
  subst hn
  have hi := info_hash
  cases hq : Try.prog.info? 24 with
  | none => rw [hq] at hi; cases hi
  | some i =>
    rw [hq] at hi
    simp only [Option.map_some, Option.some.injEq, Prod.mk.injEq] at hi
    refine wp_buildSlice 33 24 hs.length parts ho (hcells hs).toArray i _ Try.underlying33 hq hi.1 (by rw [hi.2]; omega) (by rw [hi.2]; omega) ?_ h
    rw [hp, hi.2, ← flatMap_aggs]
    refine Great.fill_whole (s := 32) (by omega) _ _ ?_ (by simp)
    intro v hv
    obtain ⟨x, hx, rfl⟩ := List.mem_map.1 hv
    show (bvs x).toArray.size = 32
    rw [List.size_toArray, bvs_length, h32 x hx]
theorem wp_build_hash1 (x : List UInt8) (h32 : x.length = 32) (t : Operand) (ho : o.op = .buildSlice 33 1 #[(0, t)]) (ht : a.eval t = .agg (bvs x).toArray)
    (h : K (a.put o.dst (.slice (some ⟨w.heap.size, 0, none⟩) 1 1)) (w.alloc (.cells (bvs x).toArray 24))) : o.wp Try.prog a w K Q := by
  refine wp_build_hashes [x] 1 rfl (by omega) (by omega) (by intro h hh; simp at hh; subst hh; exact h32) #[(0, t)] ho ?_ (by simpa [hcells] using h)
  simp [ht]
theorem wpList_build_hash1 {ops : Array Oper} {rest : List Oper} (hg : o.guard = none) (x : List UInt8) (h32 : x.length = 32) (t : Operand) (ho : o.op = .buildSlice 33 1 #[(0, t)]) (ht : a.eval t = .agg (bvs x).toArray)
    (h : wpList Try.prog ops Q rest (a.put o.dst (.slice (some ⟨w.heap.size, 0, none⟩) 1 1)) (w.alloc (.cells (bvs x).toArray 24))) : wpList Try.prog ops Q (o :: rest) a w :=
  wpList_plain hg fun _ hK => wp_build_hash1 x h32 t ho ht (hK _ _ h)
theorem wp_build_hash2 (x y : List UInt8) (hx : x.length = 32) (hy : y.length = 32) (s t : Operand) (ho : o.op = .buildSlice 33 2 #[(0, s), (1, t)]) (hs : a.eval s = .agg (bvs x).toArray) (ht : a.eval t = .agg (bvs y).toArray)
    (h : K (a.put o.dst (.slice (some ⟨w.heap.size, 0, none⟩) 2 2)) (w.alloc (.cells (hcells [x, y]).toArray 24))) : o.wp Try.prog a w K Q :=
  wp_build_hashes [x, y] 2 rfl (by omega) (by omega) (by intro h hh; simp at hh; rcases hh with rfl | rfl <;> assumption) #[(0, s), (1, t)] ho (by simp [hs, ht]) h
theorem wpList_build_hash2 {ops : Array Oper} {rest : List Oper} (hg : o.guard = none) (x y : List UInt8) (hx : x.length = 32) (hy : y.length = 32) (s t : Operand) (ho : o.op = .buildSlice 33 2 #[(0, s), (1, t)]) (hs : a.eval s = .agg (bvs x).toArray) (ht : a.eval t = .agg (bvs y).toArray)
    (h : wpList Try.prog ops Q rest (a.put o.dst (.slice (some ⟨w.heap.size, 0, none⟩) 2 2)) (w.alloc (.cells (hcells [x, y]).toArray 24))) : wpList Try.prog ops Q (o :: rest) a w :=
  wpList_plain hg fun _ hK => wp_build_hashes [x, y] 2 rfl (by omega) (by omega) (by intro h hh; simp at hh; rcases hh with rfl | rfl <;> assumption) #[(0, s), (1, t)] ho (by simp [hs, ht]) (hK _ _ h)
end

/-- A literal row of sums. -/
theorem Hs.lit (w : World) (hs : List (List UInt8)) (ha : ∀ h ∈ hs, h.length = 32) (hm : hs.length ≤ maxLen) (t : TypeId) : Hs (w.alloc (.cells (hcells hs).toArray t)) (w.heap.size + 1) (.slice (some ⟨w.heap.size, 0, none⟩) hs.length hs.length) hs :=
  ⟨by simpa using Sl.new w (hcells hs).toArray t hs.length 32 (by rw [List.size_toArray, hcells_len hs ha]) hm, ha⟩

theorem T23 : SliceTy Try.prog 33 24 (.agg (bvs (zeros 32)).toArray) 32 32 := ⟨Try.underlying33, by kernel_rfl, by kernel_rfl, by omega⟩
/-- A row of sums of one's own, made behind W0. -/
structure HMine (W0 w : World) (v : Value) (hs : List (List UInt8)) : Prop where
  own : w.ownsRow W0.heap.size 24 32 v hs.length (hcells hs)
  turns : Turns [] W0 w
  all : ∀ h ∈ hs, h.length = 32
theorem HMine.nil {W0 w : World} (t : Turns [] W0 w) : HMine W0 w (.slice none 0 0) [] := ⟨World.ownsRow_nil _ _ _ _, t, by simp⟩
theorem HMine.hs {W0 w : World} {v : Value} {hs : List (List UInt8)} (h : HMine W0 w v hs) : Hs w w.heap.size v hs := ⟨Sl.of_own h.own, h.all⟩
theorem HMine.on {W0 w w' : World} {v : Value} {hs : List (List UInt8)} (h : HMine W0 w v hs) (t : Turns [] w w') : HMine W0 w' v hs := by
  refine ⟨?_, h.turns.trans t (by simp), h.all⟩
  obtain ⟨h1, h2⟩ := h.own
  refine ⟨h1, ?_⟩
  rcases h2 with h2 | ⟨g, cap, cur, hv, hg, hh, r⟩
  · exact Or.inl h2
  · refine Or.inr ⟨g, cap, cur, hv, hg, ?_, r⟩
    rw [t.block g (Array.getElem?_eq_some_iff.1 hh).1 (by simp)]
    exact hh
theorem HMine.len {W0 w : World} {v : Value} {hs : List (List UInt8)} (h : HMine W0 w v hs) : ∃ A c, v = .slice A hs.length c ∧ hs.length ≤ c := by
  obtain ⟨A, c, e, h1, _⟩ := h.hs.form
  exact ⟨A, c, e, h1⟩
theorem hmine_append {W0 w : World} {v : Value} {hs : List (List UInt8)} (h : HMine W0 w v hs) {B : Nat} {x : Value} {cs : List (List UInt8)} (hx : Hs w B x cs) (hm : hs.length + cs.length ≤ 1000000000) (ty : TypeId) :
    ∃ v' w', (Builtin.append_ #[33, 33] ty #[v, x]).run Try.prog w = .ok v' w' ∧ HMine W0 w' v' (hs ++ cs) := by
  obtain ⟨v1, w1, hr1, ap1⟩ := run_append_rd (P := Try.prog) w T23 ty h.own hx.sl (hcells_one _) (by simp only [maxLen]; omega) (by omega) h.turns.size
  refine ⟨v1, w1, hr1, ?_⟩
  rw [← hcells_append] at ap1
  have hl : (hs ++ cs).length = hs.length + cs.length := List.length_append
  refine ⟨by rw [hl]; exact ap1.own, ?_, ?_⟩
  · exact h.turns.trans (L' := v.ownBlock.toList) (Turns.of_grown ap1.grown (by intro k hk; exact .inl (by simpa using hk))) (by intro x hx; exact .inr (h.own.lt x (by simpa using hx)).1)
  · intro y hy
    rcases List.mem_append.1 hy with hy | hy
    · exact h.all y hy
    · exact hx.all y hy
theorem hmine_push {W0 w : World} {v : Value} {hs : List (List UInt8)} (h : HMine W0 w v hs) (hm : hs.length ≤ 1000000) (x : List UInt8) (hx : x.length = 32) (ty : TypeId) :
    ∃ v' w', (Builtin.append_ #[33, 33] ty #[v, .slice (some ⟨w.heap.size, 0, none⟩) 1 1]).run Try.prog (w.alloc (.cells (bvs x).toArray 24)) = .ok v' w' ∧ HMine W0 w' v' (hs ++ [x]) :=
  hmine_append (h.on ((Turns.refl [] w).alloc _)) (Hs.one w x hx _) (by simp; omega) ty

end Go.Proofs.Ytibolcekhdapaaa
