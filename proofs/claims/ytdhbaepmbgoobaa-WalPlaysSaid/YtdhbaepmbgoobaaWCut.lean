/- Bytes are cut to records: code's cut. -/
import Derived.Test.YtdhbaepmbgoobaaWL
import Derived.Test.YtdhbaepmbgoobaaReader
import Derived.Test.YtdhbaepmbgoobaaPats
import Derived.Test.YtdhbaepmbgoobaaSls
namespace Go.Proofs.Ytdhbaepmbgoobaa
open Go.RowKit
set_option linter.unusedVariables false
set_option maxRecDepth 10000
set_option linter.unusedSimpArgs false
set_option linter.unnecessarySimpa false

/-- The address behind k. -/
def adr (A : Option Addr) (c k : Nat) : Option Addr := if c = k then A else A.map fun x => x.add k
theorem sl_off {w : World} {B n c k : Nat} {A : Option Addr} {xs : List Value} (h : Sl w B 1 (.slice A n c) n xs) (hk : k ≤ n) : Sl w B 1 (.slice (adr A c k) (n - k) (c - k)) (n - k) (xs.drop k) := by
  unfold adr
  by_cases hc : c = k
  · rw [if_pos hc]; exact h.from_end hk hc
  · rw [if_neg hc]; exact h.from_ hk hc
theorem run_to (A : Option Addr) (n c k : Nat) (hk : k ≤ n) (hc : n ≤ c) (w : World) : (Instr.sliceAt 34 (.slice A n c) none (some (.int .i64 (k : Int))) none).run Try.prog w = .ok (.slice A k c) w := by
  have z1 : (k : Int) ≤ (c : Int) := by omega
  have z2 : k ≤ c := by omega
  go_simp
theorem run_off (A : Option Addr) (n c k : Nat) (hk : k ≤ n) (hc : n ≤ c) (w : World) : (Instr.sliceAt 34 (.slice A n c) (some (.int .i64 (k : Int))) none none).run Try.prog w = .ok (.slice (adr A c k) (n - k) (c - k)) w := by
  have z1 : (k : Int) ≤ (c : Int) := by omega
  have z2 : (k : Int) ≤ (n : Int) := by omega
  unfold adr
  go_simp
  all_goals (intro hh; omega)
theorem run_mid (A : Option Addr) (n c k d : Nat) (hk : k + d ≤ n) (hc : n ≤ c) (w : World) : (Instr.sliceAt 34 (.slice A n c) (some (.int .i64 (k : Int))) (some (.int .i64 ((k : Int) + (d : Int)))) none).run Try.prog w = .ok (.slice (adr A c k) d (c - k)) w := by
  have z1 : (k : Int) ≤ (c : Int) := by omega
  have z2 : (k : Int) + (d : Int) ≤ (c : Int) := by omega
  have z3 : (k : Int) ≤ (k : Int) + (d : Int) := by omega
  have z4 : ((k : Int) + (d : Int)).toNat = k + d := by omega
  unfold adr
  go_simp

/-- Records that lie off one block; a row of such. -/
structure RecsOff (w : World) (B0 : Nat) (v : Value) (ls : List (List UInt8)) : Prop where
  ex : ∃ vs : List Value, vs.length = ls.length ∧ w.ownsRow B0 34 1 v ls.length vs ∧ ∀ (j : Nat) (h : j < ls.length), ∃ u, vs[j]? = some u ∧ Sl w w.heap.size 1 u ls[j].length (bvs ls[j]) ∧ (∀ b, v.ownBlock = some b → u.ownBlock ≠ some b) ∧ (∀ b, u.ownBlock = some b → B0 ≤ b ∧ b < w.heap.size)
theorem T8v : SliceTy Try.prog 30 34 (.slice none 0 0) 1 24 := ⟨Try.underlying30, by kernel_rfl, rfl, by omega⟩
theorem RecsOff.nil {w : World} {B0 : Nat} : RecsOff w B0 (.slice none 0 0) [] := ⟨[], rfl, World.ownsRow_nil _ _ _ _, fun j h => by simp at h⟩
theorem RecsOff.on {w w' : World} {B0 : Nat} {v : Value} {ls : List (List UInt8)} (h : RecsOff w B0 v ls) (t : Turns [] w w') : RecsOff w' B0 v ls := by
  obtain ⟨vs, h1, h2, h3⟩ := h.ex
  refine ⟨vs, h1, ?_, fun j hj => ?_⟩
  · obtain ⟨k1, k2⟩ := h2
    refine ⟨k1, ?_⟩
    rcases k2 with k2 | ⟨g, cap, cur, hv, hg, hh, r⟩
    · exact Or.inl k2
    · refine Or.inr ⟨g, cap, cur, hv, hg, ?_, r⟩
      rw [t.block g (Array.getElem?_eq_some_iff.1 hh).1 (by simp)]
      exact hh
  · obtain ⟨u, hu, hs, h4, h5⟩ := h3 j hj
    exact ⟨u, hu, (t.slice hs (Nat.le_refl _) (by simp)).more t.size, h4, fun b hb => ⟨(h5 b hb).1, Nat.lt_of_lt_of_le (h5 b hb).2 t.size⟩⟩
theorem RecsOff.sls {w : World} {B0 : Nat} {v : Value} {ls : List (List UInt8)} (h : RecsOff w B0 v ls) : Sls w w.heap.size v ls.length ls := by
  obtain ⟨vs, h1, h2, h3⟩ := h.ex
  refine ⟨vs, rfl, Sl.of_own h2, fun j u hu => ?_⟩
  have hj : j < ls.length := by have := (List.getElem?_eq_some_iff.1 hu).1; omega
  obtain ⟨u', hu', hs, _⟩ := h3 j hj
  rw [hu] at hu'
  injection hu' with hu'
  subst hu'
  exact ⟨ls[j], List.getElem?_eq_getElem hj, hs⟩
/-- One record more. -/
theorem RecsOff.push {w w1 : World} {B0 : Nat} {v x : Value} {ls : List (List UInt8)} {r : List UInt8} (h : RecsOff w B0 v ls) (t : Turns [] w w1) (hB : B0 ≤ w.heap.size) (hl : ls.length ≤ 10000000)
    (hx : w1.ownsRow w.heap.size 5 1 x r.length (bvs r)) (ty : TypeId) :
    ∃ v' w2, (Builtin.append_ #[30, 30] ty #[v, .slice (some ⟨w1.heap.size, 0, none⟩) 1 1]).run Try.prog (w1.alloc (.cells #[x] 34)) = .ok v' w2 ∧ RecsOff w2 B0 v' (ls ++ [r]) ∧ Turns v.ownBlock.toList w w2 ∧ (∀ b ∈ v.ownBlock.toList, B0 ≤ b) := by
  have h' := h.on t
  obtain ⟨vs, h1, h2, h3⟩ := h'.ex
  obtain ⟨Ax, cx, rfl⟩ : ∃ A c, x = .slice A r.length c := by
    rcases hx.2 with ⟨rfl, e⟩ | ⟨g, cap, cur, rfl, _⟩
    · exact ⟨none, 0, by rw [e]⟩
    · exact ⟨_, _, rfl⟩
  have hx1 : ∀ b, (Value.slice Ax r.length cx).ownBlock = some b → w.heap.size ≤ b ∧ b < w1.heap.size := fun b hb => hx.lt b hb
  have hv : ∀ b, v.ownBlock = some b → b < w.heap.size := by
    intro b hb
    obtain ⟨vs0, _, h0, _⟩ := h.ex
    exact (h0.lt b hb).2
  have ho := h2.alloc (.cells #[Value.slice Ax r.length cx] 34)
  obtain ⟨v', w2, hr, ap⟩ := run_append_rd (P := Try.prog) _ T8v ty ho (Sl.new w1 #[Value.slice Ax r.length cx] 34 1 1 rfl (by simp [maxLen])) (by intro u hu; simp at hu; subst hu; rfl) (by simp only [maxLen]; omega) (by omega) (by have := t.size; simp; omega)
  have hbk : ∀ b ∈ v.ownBlock.toList, B0 ≤ b := by intro b hb; exact (h2.lt b (by simpa using hb)).1
  have t2 : Turns v.ownBlock.toList w1 w2 := Turns.trans (L' := v.ownBlock.toList) ((Turns.refl _ w1).alloc _) (Turns.of_grown ap.grown (by intro k hk; exact .inl (by simpa using hk))) (fun k hk => .inl hk)
  refine ⟨v', w2, hr, ⟨vs ++ [.slice Ax r.length cx], by simp [h1], by simpa using ap.own, fun j hj => ?_⟩, (t.mono (L' := v.ownBlock.toList) (by simp)).trans t2 (fun x hx => .inl hx), hbk⟩
  have hlies : ∀ b, v'.ownBlock = some b → v.ownBlock = some b ∨ w1.heap.size < b := by
    intro b hb
    rcases ap.lies with h | ⟨g, hg, hge⟩
    · exact .inl (by rw [← h]; exact hb)
    · rw [hg] at hb
      injection hb with hb
      subst hb
      simp at hge
      exact .inr (by omega)
  simp only [List.length_append, List.length_cons, List.length_nil] at hj
  by_cases hjl : j < ls.length
  · obtain ⟨u, hu, hs, h4, h5⟩ := h3 j hjl
    refine ⟨u, by rw [List.getElem?_append_left (by omega)]; exact hu, ?_, fun b hb => ?_, fun b hb => ⟨(h5 b hb).1, Nat.lt_of_lt_of_le (h5 b hb).2 t2.size⟩⟩
    · rw [List.getElem_append_left hjl]
      exact (t2.slice hs (Nat.le_refl _) (by intro y hy; exact h4 y (by simpa using hy))).more t2.size
    · rcases hlies b hb with hb | hb
      · exact h4 b hb
      · intro e; have := (h5 b e).2; omega
  · obtain rfl : j = ls.length := by omega
    refine ⟨.slice Ax r.length cx, by rw [← h1]; simp, ?_, fun b hb => ?_, fun b hb => ⟨Nat.le_trans hB (hx1 b hb).1, Nat.lt_of_lt_of_le (hx1 b hb).2 t2.size⟩⟩
    · have e : (ls ++ [r])[ls.length]'(by simp) = r := by simp
      rw [e]
      refine (t2.slice (Sl.of_own hx) (Nat.le_refl _) (by intro y hy e; have := hv y (by simpa using hy); have := (hx1 y e).1; omega)).more t2.size
    · rcases hlies b hb with hb | hb
      · intro e; have := hv b hb; have := (hx1 b e).1; omega
      · intro e; have := (hx1 b e).2; omega
/-- Records that lie in blocks from B0 on. -/
def SlsF (B0 : Nat) (w : World) (v : Value) (n : Nat) (ls : List (List UInt8)) : Prop :=
  ∃ vs : List Value, ls.length = n ∧ Sl w w.heap.size 1 v n vs ∧ (∀ b, v.ownBlock = some b → B0 ≤ b) ∧ (∀ (j : Nat) (u : Value), vs[j]? = some u → ∃ l : List UInt8, ls[j]? = some l ∧ Sl w w.heap.size 1 u l.length (bvs l) ∧ ∀ b, u.ownBlock = some b → B0 ≤ b)
theorem SlsF.sls {B0 : Nat} {w : World} {v : Value} {n : Nat} {ls : List (List UInt8)} (h : SlsF B0 w v n ls) : Sls w w.heap.size v n ls := by
  obtain ⟨vs, h1, h2, h3, h4⟩ := h
  exact ⟨vs, h1, h2, fun j u hu => by obtain ⟨l, hl, hs, _⟩ := h4 j u hu; exact ⟨l, hl, hs⟩⟩
theorem SlsF.on {L : List Nat} {B0 : Nat} {w w' : World} {v : Value} {n : Nat} {ls : List (List UInt8)} (h : SlsF B0 w v n ls) (t : Turns L w w') (hL : ∀ x ∈ L, x < B0) : SlsF B0 w' v n ls := by
  obtain ⟨vs, h1, h2, h3, h4⟩ := h
  refine ⟨vs, h1, (t.slice h2 (Nat.le_refl _) (by intro x hx e; have := h3 x e; have := hL x hx; omega)).more t.size, h3, fun j u hu => ?_⟩
  obtain ⟨l, hl, hs, hb⟩ := h4 j u hu
  exact ⟨l, hl, (t.slice hs (Nat.le_refl _) (by intro x hx e; have := hb x e; have := hL x hx; omega)).more t.size, hb⟩
theorem SlsF.mono {B0 B1 : Nat} {w : World} {v : Value} {n : Nat} {ls : List (List UInt8)} (h : SlsF B0 w v n ls) (hB : B1 ≤ B0) : SlsF B1 w v n ls := by
  obtain ⟨vs, h1, h2, h3, h4⟩ := h
  exact ⟨vs, h1, h2, fun b hb => Nat.le_trans hB (h3 b hb), fun j u hu => by obtain ⟨l, hl, hs, hb⟩ := h4 j u hu; exact ⟨l, hl, hs, fun b h => Nat.le_trans hB (hb b h)⟩⟩
theorem SlsF.nil {B0 : Nat} {w : World} : SlsF B0 w (.slice none 0 0) 0 [] := ⟨[], rfl, Sl.nil, fun b h => by simp [Value.ownBlock] at h, fun j u h => by simp at h⟩
end Go.Proofs.Ytdhbaepmbgoobaa
