/- Rows of sums; the small functions over them. Leaves; two sums joined. Two sums joined; roots. Roots, walked. The document's roots, walked. Sums are compared; rows of sums of one's own. -/
import Derived.Test.YtoahnhphfabajaaGreatGE
import Derived.Test.YtoahnhphfabajaaGreatGH
import Derived.Great.BuildSlice
import Derived.Stop.BytesEq
namespace Go.Proofs.YtoahnhphfabajaaGreat
set_option maxRecDepth 10000
open Go.RowKit
set_option linter.unusedVariables false
set_option maxRecDepth 10000
set_option linter.unusedSimpArgs false
set_option linter.unnecessarySimpa false

/-- A row of sums as cells. -/
def hcells (hs : List (List UInt8)) : List Value := hs.flatMap bvs
theorem hcells_len : ∀ (hs : List (List UInt8)), (∀ h ∈ hs, h.length = 32) → (hcells hs).length = hs.length * 32
  | [], _ => rfl
  | h :: hs, ha => by
    have ih := hcells_len hs (fun x hx => ha x (by simp [hx]))
    have h0 := ha h (by simp)
    unfold hcells at ih ⊢
    rw [List.flatMap_cons, List.length_append, ih, bvs_length, h0]
    simp; omega
theorem hcells_cons (h : List UInt8) (hs : List (List UInt8)) : hcells (h :: hs) = bvs h ++ hcells hs := by simp [hcells]
theorem hcells_append (a b : List (List UInt8)) : hcells (a ++ b) = hcells a ++ hcells b := by simp [hcells]
theorem hcells_one (hs : List (List UInt8)) : ∀ u ∈ hcells hs, u.oneCell' = true := by
  intro u hu
  obtain ⟨h, _, hu⟩ := List.mem_flatMap.1 hu
  exact bvs_one h u hu
theorem hcells_split (hs : List (List UInt8)) (k : Nat) (ha : ∀ h ∈ hs, h.length = 32) (hk : k ≤ hs.length) : (hcells hs).take (k * 32) = hcells (hs.take k) ∧ (hcells hs).drop (k * 32) = hcells (hs.drop k) := by
  have e : hcells hs = hcells (hs.take k) ++ hcells (hs.drop k) := by rw [← hcells_append, List.take_append_drop]
  have hl : (hcells (hs.take k)).length = k * 32 := by rw [hcells_len _ (fun x hx => ha x (List.mem_of_mem_take hx)), List.length_take, Nat.min_eq_left hk]
  constructor
  · rw [e, List.take_append_of_le_length (by omega), List.take_of_length_le (by omega)]
  · rw [e, ← hl, List.drop_left]
structure Hs (w : World) (B : Nat) (v : Value) (hs : List (List UInt8)) : Prop where
  sl : Sl w B 32 v hs.length (hcells hs)
  all : ∀ h ∈ hs, h.length = 32
theorem Hs.nil {w : World} {B : Nat} : Hs w B (.slice none 0 0) [] := ⟨Sl.nil, by simp⟩
theorem Hs.turns {L : List Nat} {a w : World} (t : Turns L a w) {B : Nat} {v : Value} {hs : List (List UInt8)} (h : Hs a B v hs) (hB : B ≤ a.heap.size) (hv : ∀ x ∈ L, v.ownBlock ≠ some x) : Hs w B v hs := ⟨t.slice h.sl hB hv, h.all⟩
theorem Hs.more {w : World} {B B' : Nat} {v : Value} {hs : List (List UInt8)} (h : Hs w B v hs) (hB : B ≤ B') : Hs w B' v hs := ⟨h.sl.more hB, h.all⟩
theorem Hs.drew {w : World} {B : Nat} {v : Value} {hs : List (List UInt8)} (h : Hs w B v hs) : Hs w.drew B v hs := ⟨h.sl.drew, h.all⟩
theorem Hs.form {w : World} {B : Nat} {v : Value} {hs : List (List UInt8)} (h : Hs w B v hs) : ∃ A c, v = .slice A hs.length c ∧ hs.length ≤ c ∧ c ≤ maxLen := by
  obtain ⟨_, A, c, hv, h1, h2, _⟩ := h.sl
  exact ⟨A, c, hv, h1, h2⟩
theorem Hs.to {w : World} {B n c k : Nat} {A : Option Addr} {hs : List (List UInt8)} (h : Hs w B (.slice A n c) hs) (hk : k ≤ n) : Hs w B (.slice A k c) (hs.take k) := by
  obtain ⟨⟨hl, A', c', hv, h1, h2, h3, hr⟩, ha⟩ := h
  injection hv with e1 e2 e3
  subst e1 e2 e3
  have hsp := hcells_split hs k ha hk
  have ha' : ∀ x ∈ hs.take k, x.length = 32 := fun x hx => ha x (List.mem_of_mem_take hx)
  have hlt : (hs.take k).length = k := by rw [List.length_take, Nat.min_eq_left hk]
  refine ⟨⟨hcells_len _ ha', A, c, by rw [hlt], by rw [hlt]; omega, h2, h3, ?_⟩, ha'⟩
  rw [← hsp.1]; exact hr.take _
theorem Hs.from_ {w : World} {B n c k : Nat} {A : Option Addr} {hs : List (List UInt8)} (h : Hs w B (.slice A n c) hs) (hk : k ≤ n) (hn : n = hs.length) : Hs w B (.slice (if c = k then A else A.map fun x => x.add (k * 32)) (n - k) (c - k)) (hs.drop k) := by
  obtain ⟨⟨hl, A', c', hv, h1, h2, h3, hr⟩, ha⟩ := h
  injection hv with e1 e2 e3
  subst e1 e3
  subst hn
  have hsp := hcells_split hs k ha hk
  have ha' : ∀ x ∈ hs.drop k, x.length = 32 := fun x hx => ha x (List.mem_of_mem_drop hx)
  have hlt : (hs.drop k).length = hs.length - k := by rw [List.length_drop]
  refine ⟨⟨hcells_len _ ha', _, c - k, by rw [hlt], by rw [hlt]; omega, by omega, ?_, ?_⟩, ha'⟩
  · intro h
    by_cases hck : c = k
    · omega
    · rw [if_neg hck] at h
      have : A = none := by cases A <;> simp_all
      have := h3 this
      omega
  · rw [← hsp.2]
    by_cases hck : c = k
    · rw [if_pos hck]
      have : (hcells hs).drop (k * 32) = [] := List.drop_eq_nil_of_le (by rw [hl]; exact Nat.mul_le_mul_right _ (by omega))
      rw [this]
      exact Rd.nil
    · rw [if_neg hck]
      intro hne
      obtain ⟨b, off, e, hb, hc⟩ := hr.drop (k * 32) hne
      rcases A with _ | ⟨b', off', spot'⟩
      · simp at e
      · obtain ⟨b2, off2, e2, _⟩ := hr (by intro h; rw [h] at hne; simp at hne)
        injection e2 with e2
        injection e2 with e3 e4 e5
        subst e3 e4 e5
        simp at e
        obtain ⟨rfl, rfl⟩ := e
        exact ⟨_, _, by simp [Addr.add_lit], hb, hc⟩
theorem Hs.at_ {w : World} {B n c i : Nat} {A : Option Addr} {hs : List (List UInt8)} (h : Hs w B (.slice A n c) hs) (hi : i < hs.length) : ∃ b off, A = some ⟨b, off, none⟩ ∧ b < B ∧ w.rangeAt b (off + i * 32) (bvs hs[i]) := by
  obtain ⟨⟨hl, A', c', hv, h1, h2, h3, hr⟩, ha⟩ := h
  injection hv with e1 e2 e3
  subst e1 e3
  obtain ⟨b, off, e, hb, hc⟩ := hr (by intro e; rw [e] at hl; simp at hl; omega)
  refine ⟨b, off, e, hb, fun j v hv => ?_⟩
  rw [Nat.add_assoc]
  refine hc (i * 32 + j) v ?_
  have hsp := hcells_split hs i ha (by omega)
  have hj := (List.getElem?_eq_some_iff.1 hv).1
  rw [← List.getElem?_drop, hsp.2, List.drop_eq_getElem_cons hi, hcells_cons, List.getElem?_append_left hj]
  exact hv
/-- One sum in a block of its own. -/
theorem Hs.one (w : World) (h : List UInt8) (hl : h.length = 32) (t : TypeId) : Hs (w.alloc (.cells (bvs h).toArray t)) (w.heap.size + 1) (.slice (some ⟨w.heap.size, 0, none⟩) 1 1) [h] := by
  refine ⟨?_, by intro x hx; simp at hx; subst hx; exact hl⟩
  have := Sl.new w (bvs h).toArray t 1 32 (by simp [bvs_length, hl]) (by simp [maxLen])
  simpa [hcells] using this

section
variable {o : Oper} {a : Act} {w : World} {K : Act → World → Prop} {Q : Exit → Act → World → Prop}
theorem flatMap_aggs (hs : List (List UInt8)) : ((hs.map fun h => Value.agg (bvs h).toArray).flatMap fun v => v.cells.toList) = hcells hs := by
  unfold hcells
  rw [List.flatMap_map]
  rfl
theorem info_hash : (Tryz.prog.info? 53).map (fun i => (i.zero, i.size)) = some (some (.agg (bvs (zeros 32)).toArray), 32) := by kernel_rfl
/-- A slice literal of sums. -/
theorem wp_build_hashes (hs : List (List UInt8)) (n : Nat) (hn : n = hs.length) (h0 : 0 < n) (hm : n ≤ 1000) (h32 : ∀ h ∈ hs, h.length = 32) (parts : Array (Nat × Operand)) (ho : o.op = .buildSlice 68 n parts)
    (hp : (parts.map fun (i, x) => (i, a.eval x)).toList = ((hs.map fun h => Value.agg (bvs h).toArray).zipIdx 0).map fun x => (x.2, x.1))
    (h : K (a.put o.dst (.slice (some ⟨w.heap.size, 0, none⟩) n n)) (w.alloc (.cells (hcells hs).toArray 53))) : o.wp Tryz.prog a w K Q := by
  subst hn
  have hi := info_hash
  cases hq : Tryz.prog.info? 53 with
  | none => rw [hq] at hi; cases hi
  | some i =>
    rw [hq] at hi
    simp only [Option.map_some, Option.some.injEq, Prod.mk.injEq] at hi
    refine wp_buildSlice 68 53 hs.length parts ho (hcells hs).toArray i _ Tryz.underlying68 hq hi.1 (by rw [hi.2]; omega) (by rw [hi.2]; omega) ?_ h
    rw [hp, hi.2, ← flatMap_aggs]
    refine Great.fill_whole (s := 32) (by omega) _ _ ?_ (by simp)
    intro v hv
    obtain ⟨x, hx, rfl⟩ := List.mem_map.1 hv
    show (bvs x).toArray.size = 32
    rw [List.size_toArray, bvs_length, h32 x hx]
theorem wp_build_hash1 (x : List UInt8) (h32 : x.length = 32) (t : Operand) (ho : o.op = .buildSlice 68 1 #[(0, t)]) (ht : a.eval t = .agg (bvs x).toArray)
    (h : K (a.put o.dst (.slice (some ⟨w.heap.size, 0, none⟩) 1 1)) (w.alloc (.cells (bvs x).toArray 53))) : o.wp Tryz.prog a w K Q := by
  refine wp_build_hashes [x] 1 rfl (by omega) (by omega) (by intro h hh; simp at hh; subst hh; exact h32) #[(0, t)] ho ?_ (by simpa [hcells] using h)
  simp [ht]
theorem wpList_build_hash1 {ops : Array Oper} {rest : List Oper} (hg : o.guard = none) (x : List UInt8) (h32 : x.length = 32) (t : Operand) (ho : o.op = .buildSlice 68 1 #[(0, t)]) (ht : a.eval t = .agg (bvs x).toArray)
    (h : wpList Tryz.prog ops Q rest (a.put o.dst (.slice (some ⟨w.heap.size, 0, none⟩) 1 1)) (w.alloc (.cells (bvs x).toArray 53))) : wpList Tryz.prog ops Q (o :: rest) a w :=
  wpList_plain hg fun _ hK => wp_build_hash1 x h32 t ho ht (hK _ _ h)
theorem wp_build_hash2 (x y : List UInt8) (hx : x.length = 32) (hy : y.length = 32) (s t : Operand) (ho : o.op = .buildSlice 68 2 #[(0, s), (1, t)]) (hs : a.eval s = .agg (bvs x).toArray) (ht : a.eval t = .agg (bvs y).toArray)
    (h : K (a.put o.dst (.slice (some ⟨w.heap.size, 0, none⟩) 2 2)) (w.alloc (.cells (hcells [x, y]).toArray 53))) : o.wp Tryz.prog a w K Q :=
  wp_build_hashes [x, y] 2 rfl (by omega) (by omega) (by intro h hh; simp at hh; rcases hh with rfl | rfl <;> assumption) #[(0, s), (1, t)] ho (by simp [hs, ht]) h
theorem wpList_build_hash2 {ops : Array Oper} {rest : List Oper} (hg : o.guard = none) (x y : List UInt8) (hx : x.length = 32) (hy : y.length = 32) (s t : Operand) (ho : o.op = .buildSlice 68 2 #[(0, s), (1, t)]) (hs : a.eval s = .agg (bvs x).toArray) (ht : a.eval t = .agg (bvs y).toArray)
    (h : wpList Tryz.prog ops Q rest (a.put o.dst (.slice (some ⟨w.heap.size, 0, none⟩) 2 2)) (w.alloc (.cells (hcells [x, y]).toArray 53))) : wpList Tryz.prog ops Q (o :: rest) a w :=
  wpList_plain hg fun _ hK => wp_build_hashes [x, y] 2 rfl (by omega) (by omega) (by intro h hh; simp at hh; rcases hh with rfl | rfl <;> assumption) #[(0, s), (1, t)] ho (by simp [hs, ht]) (hK _ _ h)
end

/-- A literal row of sums. -/
theorem Hs.lit (w : World) (hs : List (List UInt8)) (ha : ∀ h ∈ hs, h.length = 32) (hm : hs.length ≤ maxLen) (t : TypeId) : Hs (w.alloc (.cells (hcells hs).toArray t)) (w.heap.size + 1) (.slice (some ⟨w.heap.size, 0, none⟩) hs.length hs.length) hs :=
  ⟨by simpa using Sl.new w (hcells hs).toArray t hs.length 32 (by rw [List.size_toArray, hcells_len hs ha]) hm, ha⟩

/-- sha.Sum over parts that were just laid side by side. -/
theorem Sum_lit (ls : List (Value × List UInt8)) (w : World) (h : ∀ p ∈ ls, Sl w w.heap.size 1 p.1 p.2.length (bvs p.2)) (hn : (flat ls).length ≤ 1000000000) (hl : ls.length ≤ 1000000) :
    Calls Tryz.prog 57 #[.slice (some ⟨w.heap.size, 0, none⟩) ls.length ls.length] (w.alloc (.cells (ls.map (·.1)).toArray 129)) fun e w' => e = .returned (.agg (bvs (sha (flat ls))).toArray) ∧ Turns [] w w' := by
  have hs := Sl.new w (ls.map (·.1)).toArray 129 ls.length 1 (by simp) (by simp only [maxLen]; omega)
  refine (Sum_any _ ls _ (by simpa using hs) (fun p hp => ((h p hp).alloc (Nat.le_refl _) _).more (by simp)) hn hl).mono ?_
  rintro e w' ⟨rfl, t⟩
  exact ⟨rfl, ((Turns.refl [] w).alloc _).trans t (by simp)⟩
/-- A byte in a block of its own. -/
theorem Sl.byte (w : World) (x : UInt8) (u : Value) (hu : u = u8v x) : Sl (w.alloc (.cells #[u] 5)) (w.heap.size + 1) 1 (.slice (some ⟨w.heap.size, 0, none⟩) 1 1) 1 (bvs [x]) := by
  subst hu
  exact Sl.new w #[u8v x] 5 1 1 rfl (by simp [maxLen])
/-- A whole array as bytes. -/
theorem Blk.bytes {w : World} {g : Nat} {bs : List UInt8} {t : TypeId} (h : Blk w g (bvs bs) t) (hm : bs.length ≤ maxLen) : Sl w (g + 1) 1 (.slice (some ⟨g, 0, none⟩) bs.length bs.length) bs.length (bvs bs) :=
  ⟨by rw [bvs_length, Nat.mul_one], _, _, rfl, Nat.le_refl _, hm, (fun h => by cases h), fun _ => ⟨g, 0, rfl, by omega, fun j u hu => by rw [Nat.zero_add, h.cell]; exact hu⟩⟩

set_option maxHeartbeats 1000000 in
theorem cut_any (n : Nat) (hn : n ≤ 1000000000) (w : World) : Calls Tryz.prog 90 #[.int .i64 n] w fun e w' => e = .returned (.int .i64 (mcut n)) ∧ w = w' := by
  obtain ⟨res, hres⟩ : ∃ r, r = mcut n := ⟨_, rfl⟩
  rw [← hres]
  have HR := Lib.hid hres
  clear hres
  have hn1 : (n : Int) ≤ 1000000000 := by omega
  go_enter Tryz.func90, Tryz.ntmps90
  go_wp2_with fail
  go_loop [3] (fun i => ∃ k f : Nat, i = .int .i64 k ∧ 0 < k ∧ k ≤ n + 1 ∧ n ≤ k + f ∧ cutF f k n = res) (fun i => n - (intOf i).toNat)
  case atStart => exact ⟨1, n, rfl, by omega, by omega, by omega, by rw [HR.out]; rfl⟩
  case round =>
    obtain ⟨k, f, rfl, h0, hk, hf, hc⟩ := hrel
    have hki : (k : Int) ≤ 1000000001 := by omega
    by_cases hlt : 2 * k < n
    · have hl : 2 * (k : Int) < (n : Int) := by omega
      cases f with
      | zero => omega
      | succ f =>
        rw [cutF, if_pos hlt] at hc
        have HC := Lib.hid hc
        clear hc
        go_wp2_with fail
        go_round
        case rel => exact ⟨2 * k, f, by go_num, by omega, by omega, by omega, HC.out⟩
        case measure => simp [intOf]; omega
    · have hl : ¬ 2 * (k : Int) < (n : Int) := by omega
      rw [cutF_stop f k n hlt] at hc
      subst hc
      clear hf
      go_wp2_with fail
      go_ret
      exact ⟨rfl, rfl⟩
set_option maxHeartbeats 1000000 in
theorem part_any (n : Nat) (hn : n ≤ 1000000000) (w : World) : Calls Tryz.prog 66 #[.int .i64 n] w fun e w' => e = .returned (.int .i64 (mcut n)) ∧ w = w' := by
  obtain ⟨res, hres⟩ : ∃ r, r = mcut n := ⟨_, rfl⟩
  rw [← hres]
  have HR := Lib.hid hres
  clear hres
  have hn1 : (n : Int) ≤ 1000000000 := by omega
  go_enter Tryz.func66, Tryz.ntmps66
  go_wp2_with fail
  go_loop [3] (fun i => ∃ k f : Nat, i = .int .i64 k ∧ 0 < k ∧ k ≤ n + 1 ∧ n ≤ k + f ∧ cutF f k n = res) (fun i => n - (intOf i).toNat)
  case atStart => exact ⟨1, n, rfl, by omega, by omega, by omega, by rw [HR.out]; rfl⟩
  case round =>
    obtain ⟨k, f, rfl, h0, hk, hf, hc⟩ := hrel
    have hki : (k : Int) ≤ 1000000001 := by omega
    by_cases hlt : 2 * k < n
    · have hl : 2 * (k : Int) < (n : Int) := by omega
      cases f with
      | zero => omega
      | succ f =>
        rw [cutF, if_pos hlt] at hc
        have HC := Lib.hid hc
        clear hc
        go_wp2_with fail
        go_round
        case rel => exact ⟨2 * k, f, by go_num, by omega, by omega, by omega, HC.out⟩
        case measure => simp [intOf]; omega
    · have hl : ¬ 2 * (k : Int) < (n : Int) := by omega
      rw [cutF_stop f k n hlt] at hc
      subst hc
      clear hf
      go_wp2_with fail
      go_ret
      exact ⟨rfl, rfl⟩
end Go.Proofs.YtoahnhphfabajaaGreat
namespace Go.Proofs.YtoahnhphfabajaaGreat
set_option maxRecDepth 10000
open Go.RowKit
set_option linter.unusedVariables false
set_option linter.unusedSimpArgs false
set_option linter.unnecessarySimpa false

set_option maxRecDepth 100000 in
set_option maxHeartbeats 1000000 in
theorem Leaf_any (A : Option Addr) (n c B : Nat) (b : List UInt8) (w : World) (h : Sl w B 1 (.slice A n c) n (bvs b)) (hB : B ≤ w.heap.size) (hm : b.length ≤ 100000000) :
    Calls Tryz.prog 54 #[.slice A n c] w fun e w' => e = .returned (.agg (bvs (leafH b)).toArray) ∧ Turns [] w w' := by
  have hbn := h.1
  rw [bvs_length, Nat.mul_one] at hbn
  subst hbn
  obtain ⟨res, hres⟩ : ∃ r, r = bvs (leafH b) := ⟨_, rfl⟩
  rw [← hres]
  have HRES := Lib.hid hres
  have hz32 := zero_hash
  have hzl := zeros32_len
  have b2 := Blk.new w (bvs (zeros 32)) 53
  have t1 := (Turns.refl [] w).alloc (.cells (bvs (zeros 32)).toArray 53)
  generalize hzz : bvs (zeros 32) = zz at hz32 hzl b2 t1
  obtain ⟨w1, hw1⟩ : ∃ x, x = w.alloc (.cells zz.toArray 53) := ⟨_, rfl⟩
  rw [← hw1] at b2 t1
  have hs1 : w1.heap.size = w.heap.size + 1 := by rw [hw1]; simp
  have HS1 := Lib.hid hs1
  have HW1 := Lib.hid hw1
  have HZL := Lib.hid hzl
  have H0 := Lib.hid (And.intro b2 t1)
  clear hres hzz hw1 hzl b2 t1 hs1
  have HLEN := Lib.hid (show (leafH b).length = 32 from sha_len _)
  have s1 := (H0.out.2.slice h hB (by simp)).more (Nat.le_trans hB H0.out.2.size)
  have by1 := Sl.byte w1 0 (.int .u8 0) rfl
  have SU := Sum_lit [(.slice (some ⟨w1.heap.size, 0, none⟩) 1 1, [0]), (.slice A b.length c, b)] (w1.alloc (.cells #[.int .u8 0] 5)) (by
    intro p hp
    simp at hp
    rcases hp with rfl | rfl
    · simpa using by1
    · exact (s1.alloc (Nat.le_refl _) _).more (by simp)) (by simp [flat]; omega) (by simp)
  have hfl : flat [(Value.slice (some ⟨w1.heap.size, 0, none⟩) 1 1, [(0 : UInt8)]), (Value.slice A b.length c, b)] = 0 :: b := by simp [flat]
  rw [hfl] at SU
  simp only [List.length_cons, List.length_nil, List.map_cons, List.map_nil, World.size_alloc] at SU
  have SH := Lib.hid SU
  clear SU hfl s1 by1 h hB hm
  go_enter Tryz.func54, Tryz.ntmps54
  go_upto_region 1 with (first | (refine wpList_alloc_arr (o := ⟨some 2, _, _, _, _, _⟩) rfl 53 rfl zz.toArray hz32 ?_) | fail)
  try simp only [Act.put, List.setIfInBounds_toArray, List.set_cons_succ, List.set_cons_zero]
  rw [← HW1.out]
  go_wp2_with fail
  refine SH.out.mono ?_
  rintro e w2 ⟨rfl, t2⟩
  rw [show bvs (sha (0 :: b)) = res from HRES.out.symm]
  have t12 : Turns [] w1 w2 := ((Turns.refl [] w1).alloc _).trans t2 (by simp)
  have H2 := Lib.hid t12
  clear t12 t2 SH
  have hrl : res.length = 32 := by rw [HRES.out, bvs_length]; exact HLEN.out
  have hr1 : ∀ u ∈ res, u.oneCell' = true := by rw [HRES.out]; exact bvs_one _
  have Q_b2 := Lib.hid (H0.out.1.turns H2.out (by simp))
  have Q_l := Lib.hid (show zz.length = res.length by rw [HZL.out, hrl])
  have Q_sz := Lib.hid (show (Tryz.prog.info? 53).map (·.size) = some res.length by rw [size_hash, hrl])
  have Q_1 := Lib.hid hr1
  clear hrl hr1
  go_wp2_with (first
    | (refine wpList_store_blk rfl 53 (.tmp 2) (.tmp 6) rfl w.heap.size (by kernel_rfl) res zz 53 (by kernel_rfl) Q_b2.out Q_l.out Q_sz.out Q_1.out (fun w9 hb9 ht9 hs9 => ?_); have HQ9 := Lib.hid (And.intro hb9 ht9); clear hb9 ht9 hs9)
    | fail)
  refine bodyPost_ret (results_cell_row rfl _ _ w.heap.size _ _ _ _ (by kernel_rfl) HQ9.out.1 Tryz.underlying53 rfl (by rw [List.size_toArray]; exact Q_sz.out)) rfl ?_
  exact ⟨rfl, (H0.out.2.trans H2.out (by simp)).trans HQ9.out.2 (by simp)⟩

/-- A literal row of bytes. -/
theorem mine_lit (w : World) (bs : List UInt8) (hm : bs.length ≤ maxLen) : Mine w (w.alloc (.cells (bvs bs).toArray 5)) (.slice (some ⟨w.heap.size, 0, none⟩) bs.length bs.length) bs :=
  ⟨⟨by rw [bvs_length, Nat.mul_one], .inr ⟨w.heap.size, bs.length, (bvs bs).toArray, rfl, Nat.le_refl _, heap_alloc_new w _, Nat.le_refl _, hm, by simp [bvs_length], by
    rw [Nat.mul_one]
    exact List.take_of_length_le (by simp [bvs_length])⟩⟩, (Turns.refl [] w).alloc _⟩
theorem mine_append {W0 w : World} {v : Value} {bs : List UInt8} (h : Mine W0 w v bs) {B : Nat} {x : Value} {cs : List UInt8} (hx : Sl w B 1 x cs.length (bvs cs)) (hm : bs.length + cs.length ≤ 2000000000) (ty : TypeId) :
    ∃ v' w', (Builtin.append_ #[129, 129] ty #[v, x]).run Tryz.prog w = .ok v' w' ∧ Mine W0 w' v' (bs ++ cs) := by
  obtain ⟨v1, w1, hr1, ap1⟩ := run_append_rd (P := Tryz.prog) w T8 ty h.own hx (bvs_one _) (by simp only [maxLen]; omega) (by omega) h.turns.size
  refine ⟨v1, w1, hr1, ?_⟩
  rw [← bvs_append] at ap1
  exact mine_apd h ap1

set_option maxRecDepth 100000 in
set_option maxHeartbeats 1000000 in
theorem refLeaf_any (A : Option Addr) (n c B : Nat) (b : List UInt8) (w : World) (h : Sl w B 1 (.slice A n c) n (bvs b)) (hB : B ≤ w.heap.size) (hm : b.length ≤ 100000000) :
    Calls Tryz.prog 93 #[.slice A n c] w fun e w' => e = .returned (.agg (bvs (leafH b)).toArray) ∧ Turns [] w w' := by
  have hbn := h.1
  rw [bvs_length, Nat.mul_one] at hbn
  subst hbn
  obtain ⟨res, hres⟩ : ∃ r, r = bvs (leafH b) := ⟨_, rfl⟩
  rw [← hres]
  have HRES := Lib.hid hres
  have hz32 := zero_hash
  have hzl := zeros32_len
  have b2 := Blk.new w (bvs (zeros 32)) 53
  have t1 := (Turns.refl [] w).alloc (.cells (bvs (zeros 32)).toArray 53)
  generalize hzz : bvs (zeros 32) = zz at hz32 hzl b2 t1
  obtain ⟨w1, hw1⟩ : ∃ x, x = w.alloc (.cells zz.toArray 53) := ⟨_, rfl⟩
  rw [← hw1] at b2 t1
  have hs1 : w1.heap.size = w.heap.size + 1 := by rw [hw1]; simp
  have HS1 := Lib.hid hs1
  have HW1 := Lib.hid hw1
  have HZL := Lib.hid hzl
  have H0 := Lib.hid (And.intro b2 t1)
  clear hres hzz hw1 hzl b2 t1 hs1
  have HLEN := Lib.hid (show (leafH b).length = 32 from sha_len _)
  have s1 := (H0.out.2.slice h hB (by simp)).more (Nat.le_trans hB H0.out.2.size)
  obtain ⟨v2, w2, hr2, m2⟩ := mine_append (mine_lit w1 [0] (by simp [maxLen])) (s1.alloc (Nat.le_refl _) _) (by simp; omega) 129
  obtain ⟨A2, c2, rfl, _⟩ := m2.len
  have SU := refSum_any A2 _ c2 w2.heap.size ([0] ++ b) w2 m2.sl (Nat.le_refl _) (by simp; omega)
  rw [show ([(0 : UInt8)] ++ b).length = b.length + 1 by simp] at SU
  have SH := Lib.hid SU
  have H2 := Lib.hid m2.turns
  rw [show (bvs [0]).toArray = #[Value.int .u8 0] from rfl, show [(0 : UInt8)].length = 1 from rfl, show ([(0 : UInt8)] ++ b).length = b.length + 1 by simp] at hr2
  clear SU s1 m2 h hB hm
  go_enter Tryz.func93, Tryz.ntmps93
  go_upto_region 1 with (first | (refine wpList_alloc_arr (o := ⟨some 2, _, _, _, _, _⟩) rfl 53 rfl zz.toArray hz32 ?_) | fail)
  try simp only [Act.put, List.setIfInBounds_toArray, List.set_cons_succ, List.set_cons_zero]
  rw [← HW1.out]
  go_wp2_with (at_builtin; refine wpList_append_at rfl (.tmp 3) (.tmp 4) rfl hr2 rfl rfl ?_)
  clear hr2
  refine SH.out.mono ?_
  rintro e w3 ⟨rfl, t3⟩
  rw [show bvs (sha ([0] ++ b)) = res from HRES.out.symm]
  have H3 := Lib.hid (H2.out.trans t3 (by simp))
  clear t3 SH
  have hrl : res.length = 32 := by rw [HRES.out, bvs_length]; exact HLEN.out
  have hr1 : ∀ u ∈ res, u.oneCell' = true := by rw [HRES.out]; exact bvs_one _
  have Q_b2 := Lib.hid (H0.out.1.turns H3.out (by simp))
  have Q_l := Lib.hid (show zz.length = res.length by rw [HZL.out, hrl])
  have Q_sz := Lib.hid (show (Tryz.prog.info? 53).map (·.size) = some res.length by rw [size_hash, hrl])
  have Q_1 := Lib.hid hr1
  clear hrl hr1
  go_wp2_with (first
    | (refine wpList_store_blk rfl 53 (.tmp 2) (.tmp 6) rfl w.heap.size (by kernel_rfl) res zz 53 (by kernel_rfl) Q_b2.out Q_l.out Q_sz.out Q_1.out (fun w9 hb9 ht9 hs9 => ?_); have HQ9 := Lib.hid (And.intro hb9 ht9); clear hb9 ht9 hs9)
    | fail)
  refine bodyPost_ret (results_cell_row rfl _ _ w.heap.size _ _ _ _ (by kernel_rfl) HQ9.out.1 Tryz.underlying53 rfl (by rw [List.size_toArray]; exact Q_sz.out)) rfl ?_
  exact ⟨rfl, (H0.out.2.trans H3.out (by simp)).trans HQ9.out.2 (by simp)⟩

set_option maxRecDepth 100000 in
set_option maxHeartbeats 1000000 in
theorem Two_any (a b : List UInt8) (ha : a.length = 32) (hb : b.length = 32) (w0 : World) :
    Calls Tryz.prog 67 #[.agg (bvs a).toArray, .agg (bvs b).toArray] w0 fun e w' => e = .returned (.agg (bvs (twoH a b)).toArray) ∧ Turns [] w0 w' := by
  obtain ⟨w, hw⟩ : ∃ x, x = (w0.alloc (.cells (bvs a).toArray 53)).alloc (.cells (bvs b).toArray 53) := ⟨_, rfl⟩
  have ba := (Blk.new w0 (bvs a) 53).alloc (.cells (bvs b).toArray 53)
  have bb := Blk.new (w0.alloc (.cells (bvs a).toArray 53)) (bvs b) 53
  have t0 := ((Turns.refl [] w0).alloc (.cells (bvs a).toArray 53)).alloc (.cells (bvs b).toArray 53)
  have hs0 : w.heap.size = w0.heap.size + 2 := by rw [hw]; simp
  rw [← hw] at ba bb t0
  rw [show (w0.alloc (.cells (bvs a).toArray 53)).heap.size = w0.heap.size + 1 by simp] at bb
  have HW0 := Lib.hid hw
  have HT0 := Lib.hid t0
  have HS0 := Lib.hid hs0
  obtain ⟨res, hres⟩ : ∃ r, r = bvs (twoH a b) := ⟨_, rfl⟩
  rw [← hres]
  have HRES := Lib.hid hres
  have hz32 := zero_hash
  have hzl := zeros32_len
  have b2 := Blk.new w (bvs (zeros 32)) 53
  have t1 := (Turns.refl [] w).alloc (.cells (bvs (zeros 32)).toArray 53)
  generalize hzz : bvs (zeros 32) = zz at hz32 hzl b2 t1
  obtain ⟨w1, hw1⟩ : ∃ x, x = w.alloc (.cells zz.toArray 53) := ⟨_, rfl⟩
  rw [← hw1] at b2 t1
  have hs1 : w1.heap.size = w.heap.size + 1 := by rw [hw1]; simp
  have HS1 := Lib.hid hs1
  have HW1 := Lib.hid hw1
  have HZL := Lib.hid hzl
  have H0 := Lib.hid (And.intro b2 t1)
  clear hres hzz hw1 hzl b2 t1 hs1
  have HLEN := Lib.hid (show (twoH a b).length = 32 from sha_len _)
  have sa := ((ba.turns H0.out.2 (by simp)).bytes (by simp [maxLen, ha])).more (show w0.heap.size + 1 ≤ w1.heap.size by have := H0.out.2.size; omega)
  have sb := ((bb.turns H0.out.2 (by simp)).bytes (by simp [maxLen, hb])).more (show w0.heap.size + 1 + 1 ≤ w1.heap.size by have := H0.out.2.size; omega)
  obtain ⟨v2, w2, hr2, m2⟩ := mine_append (mine_lit w1 [1] (by simp [maxLen])) (sa.alloc (Nat.le_refl _) _) (by simp; omega) 129
  obtain ⟨v3, w3, hr3, m3⟩ := mine_append m2 (m2.turns.slice sb (Nat.le_refl _) (by simp)) (by simp; omega) 129
  obtain ⟨A2, c2, rfl, _⟩ := m2.len
  obtain ⟨A3, c3, rfl, _⟩ := m3.len
  have SU := refSum_any A3 _ c3 w3.heap.size ([1] ++ a ++ b) w3 m3.sl (Nat.le_refl _) (by simp; omega)
  rw [show ([(1 : UInt8)] ++ a ++ b).length = 65 by simp [ha, hb]] at SU
  have SH := Lib.hid SU
  have H2 := Lib.hid m3.turns
  have l33 : ([(1 : UInt8)] ++ a).length = 33 := by simp [ha]
  have l65 : ([(1 : UInt8)] ++ a ++ b).length = 65 := by simp [ha, hb]
  rw [show (bvs [1]).toArray = #[Value.int .u8 1] from rfl, show [(1 : UInt8)].length = 1 from rfl, l33, ha] at hr2
  rw [hb, l33, l65] at hr3
  have HAB := Lib.hid (And.intro ha hb)
  clear SU sa sb m2 m3 ha hb hw t0 hs0 ba bb l33 l65
  go_enter Tryz.func67, Tryz.ntmps67
  go_upto_region 1 with (first | (refine wpList_alloc_arr (o := ⟨some 4, _, _, _, _, _⟩) rfl 53 rfl zz.toArray hz32 ?_) | fail)
  try simp only [Act.put, List.setIfInBounds_toArray, List.set_cons_succ, List.set_cons_zero]
  rw [← HW0.out, ← HW1.out]
  go_wp2_with (first
    | (at_builtin; refine wpList_append_at rfl (.tmp 6) (.tmp 7) rfl hr2 rfl rfl ?_)
    | (at_builtin; refine wpList_append_at rfl (.tmp 9) (.tmp 10) rfl hr3 rfl rfl ?_)
    | fail)
  clear hr2 hr3
  refine SH.out.mono ?_
  rintro e w4 ⟨rfl, t4⟩
  rw [show bvs (sha ([1] ++ a ++ b)) = res from by rw [HRES.out]; rfl]
  have H3 := Lib.hid (H2.out.trans t4 (by simp))
  clear t4 SH
  have hrl : res.length = 32 := by rw [HRES.out, bvs_length]; exact HLEN.out
  have hr1 : ∀ u ∈ res, u.oneCell' = true := by rw [HRES.out]; exact bvs_one _
  have Q_b2 := Lib.hid (H0.out.1.turns H3.out (by simp))
  have Q_l := Lib.hid (show zz.length = res.length by rw [HZL.out, hrl])
  have Q_sz := Lib.hid (show (Tryz.prog.info? 53).map (·.size) = some res.length by rw [size_hash, hrl])
  have Q_1 := Lib.hid hr1
  clear hrl hr1
  go_wp2_with (first
    | (refine wpList_store_blk rfl 53 (.tmp 4) (.tmp 12) rfl w.heap.size (by kernel_rfl) res zz 53 (by kernel_rfl) Q_b2.out Q_l.out Q_sz.out Q_1.out (fun w9 hb9 ht9 hs9 => ?_); have HQ9 := Lib.hid (And.intro hb9 ht9); clear hb9 ht9 hs9)
    | fail)
  refine bodyPost_ret (results_cell_row rfl _ _ w.heap.size _ _ _ _ (by kernel_rfl) HQ9.out.1 Tryz.underlying53 rfl (by rw [List.size_toArray]; exact Q_sz.out)) rfl ?_
  exact ⟨rfl, ((HT0.out.trans H0.out.2 (by simp)).trans H3.out (by simp)).trans HQ9.out.2 (by simp; have := HS0.out; omega)⟩
end Go.Proofs.YtoahnhphfabajaaGreat
namespace Go.Proofs.YtoahnhphfabajaaGreat
set_option maxRecDepth 10000
open Go.RowKit
set_option linter.unusedVariables false
set_option linter.unusedSimpArgs false
set_option linter.unnecessarySimpa false

def jn (k : Nat) (a b : List UInt8) : List UInt8 := if k = 0 then a else twoH a b
set_option maxRecDepth 100000 in
set_option maxHeartbeats 2000000 in
theorem joined_any (a b : List UInt8) (ha : a.length = 32) (A : Option Addr) (c B : Nat) (w0 : World) (h : Hs w0 B (.slice A 1 c) [b]) (hB : B ≤ w0.heap.size) :
    Calls Tryz.prog 83 #[.agg (bvs a).toArray, .slice A 1 c] w0 fun e w' => e = .returned (.agg (bvs (twoH a b)).toArray) ∧ Turns [] w0 w' := by
  have hb : b.length = 32 := h.all b (by simp)
  obtain ⟨w, hw⟩ : ∃ x, x = w0.alloc (.cells (bvs a).toArray 53) := ⟨_, rfl⟩
  have ba := Blk.new w0 (bvs a) 53
  have t0 := (Turns.refl [] w0).alloc (.cells (bvs a).toArray 53)
  have hs0 : w.heap.size = w0.heap.size + 1 := by rw [hw]; simp
  rw [← hw] at ba t0
  have HW0 := Lib.hid hw
  have HT0 := Lib.hid t0
  have HS0 := Lib.hid hs0
  obtain ⟨res, hres⟩ : ∃ r, r = bvs (twoH a b) := ⟨_, rfl⟩
  rw [← hres]
  have HRES := Lib.hid hres
  have hz32 := zero_hash
  have hzl := zeros32_len
  have b2 := Blk.new w (bvs (zeros 32)) 53
  have t1 := (Turns.refl [] w).alloc (.cells (bvs (zeros 32)).toArray 53)
  generalize hzz : bvs (zeros 32) = zz at hz32 hzl b2 t1
  obtain ⟨w1, hw1⟩ : ∃ x, x = w.alloc (.cells zz.toArray 53) := ⟨_, rfl⟩
  rw [← hw1] at b2 t1
  have hs1 : w1.heap.size = w.heap.size + 1 := by rw [hw1]; simp
  have HS1 := Lib.hid hs1
  have HW1 := Lib.hid hw1
  have HZL := Lib.hid hzl
  have H0 := Lib.hid (And.intro b2 t1)
  clear hres hzz hw1 hzl b2 t1 hs1
  have HLEN := Lib.hid (show (twoH a b).length = 32 from sha_len _)
  obtain ⟨b0, off, rfl, hb0, r0⟩ := h.at_ (i := 0) (by simp)
  rw [Nat.zero_mul, Nat.add_zero, List.getElem_cons_zero] at r0
  obtain ⟨p2, hp2⟩ : ∃ q, q = w0.heap.size := ⟨_, rfl⟩
  rw [← hp2] at ba
  have hbp : b0 ≠ p2 := by omega
  have HJ := Lib.hid (And.intro (ba.turns H0.out.2 (by simp)) (And.intro r0 (And.intro hbp (And.intro ha hb))))
  have HP2 := Lib.hid hp2
  have hc1 : 1 ≤ c := by obtain ⟨_, _, hv, h1, _⟩ := h.form; injection hv with _ _ e; subst e; simpa using h1
  clear ha hb hw t0 hs0 ba r0 hb0 h hB hbp
  rw [← hp2] at HS0
  clear hp2
  go_enter Tryz.func83, Tryz.ntmps83
  go_upto_region 1 with (first | (refine wpList_alloc_arr (o := ⟨some 4, _, _, _, _, _⟩) rfl 53 rfl zz.toArray hz32 ?_) | fail)
  try simp only [Act.put, List.setIfInBounds_toArray, List.set_cons_succ, List.set_cons_zero]
  rw [← HW0.out, ← HW1.out, ← HP2.out]
  go_wp2_with fail
  go_loopw [9] (fun i wr => ∃ k : Nat, k ≤ 1 ∧ i = .int .i64 k ∧ Blk wr p2 (bvs (jn k a b)) 53 ∧ Turns [p2] w1 wr) (fun i _ => 1 - (intOf i).toNat)
  case atStart => exact ⟨0, by omega, rfl, HJ.out.1, Turns.refl _ _⟩
  case round =>
    obtain ⟨k, hk, rfl, v2, td⟩ := hrel
    by_cases hlt : k < 1
    · obtain rfl : k = 0 := by omega
      rw [show jn 0 a b = a from rfl] at v2
      have tall : Turns [p2] w0 wr := (((HT0.out.trans H0.out.2 (by simp)).mono (by simp)).trans td (by simp))
      have r1 := rangeT tall HJ.out.2.1 (by simpa using HJ.out.2.2.1)
      have hbl : (bvs b).length = 32 := by rw [bvs_length, HJ.out.2.2.2.2]
      have hb1 := bvs_one b
      have b6 := Blk.new wr zz 53
      have t6 : Turns [] wr (wr.alloc (.cells zz.toArray 53)) := (Turns.refl _ _).alloc _
      have HB := Lib.hid (And.intro v2 (And.intro td (And.intro b6 t6)))
      have hlt2 := v2.lt
      obtain ⟨bs, hbs⟩ : ∃ bs, bs = bvs b := ⟨_, rfl⟩
      rw [← hbs] at r1 hbl hb1
      have R1 := Lib.hid r1
      have HBS := Lib.hid hbs
      have P_sz := Lib.hid (show (Tryz.prog.info? 53).map (·.size) = some bs.length by rw [size_hash, hbl])
      have P_l := Lib.hid (show zz.length = bs.length by rw [HZL.out, hbl])
      have P_1 := Lib.hid hb1
      have HLT := Lib.hid hlt2
      clear v2 td tall r1 hbl hb1 b6 t6 hbs hlt2
      go_upto_region 4 with (first
        | (refine wpList_load_mid rfl 53 (.tmp 11) rfl b0 off (by kernel_rfl) bs _ R1.out Tryz.underlying53 rfl P_sz.out ?_)
        | (refine wpList_alloc_arr (o := ⟨some 6, _, _, _, _, _⟩) rfl 53 rfl zz.toArray hz32 ?_)
        | (refine wpList_store_blk rfl 53 (.tmp 6) (.tmp 12) rfl wr.heap.size (by kernel_rfl) bs zz 53 (by kernel_rfl) HB.out.2.2.1 P_l.out P_sz.out P_1.out (fun y1 hb1 ht1 hs1 => ?_); have HQ := Lib.hid (And.intro hb1 ht1); clear hb1 ht1 hs1)
        | fail)
      try simp only [Act.put, List.setIfInBounds_toArray, List.set_cons_succ, List.set_cons_zero]
      obtain ⟨p6, hp6⟩ : ∃ q, q = wr.heap.size := ⟨_, rfl⟩
      rw [← hp6] at HQ HLT ⊢
      have ty : Turns [] wr y1 := HB.out.2.2.2.trans HQ.out.2 (by intro x hx; simp at hx; exact .inr (by omega))
      have v2 := HB.out.1.turns ty (by simp)
      have v6 := HQ.out.1
      rw [HBS.out] at v6
      have l6 := v6.lt
      have l2 := HLT.out
      have sa := ((v2.drew.bytes (by simp [maxLen, HJ.out.2.2.2.1])).more (show p2 + 1 ≤ y1.drew.heap.size by show p2 + 1 ≤ y1.heap.size; omega)).alloc (Nat.le_refl _) (.cells #[.int .u8 1] 5)
      have sb := ((v6.drew.bytes (by simp [maxLen, HJ.out.2.2.2.2])).more (show p6 + 1 ≤ y1.drew.heap.size by show p6 + 1 ≤ y1.heap.size; omega)).alloc (Nat.le_refl _) (.cells #[.int .u8 1] 5)
      have s1 := Sl.byte y1.drew 1 (.int .u8 1) rfl
      have SU := Sum_lit [(.slice (some ⟨y1.drew.heap.size, 0, none⟩) 1 1, [1]), (.slice (some ⟨p2, 0, none⟩) a.length a.length, a), (.slice (some ⟨p6, 0, none⟩) b.length b.length, b)] (y1.drew.alloc (.cells #[.int .u8 1] 5)) (by
        intro p hp
        simp at hp
        rcases hp with rfl | rfl | rfl
        · exact s1.more (by simp)
        · exact sa.more (by simp)
        · exact sb.more (by simp)) (by simp [flat]; have := HJ.out.2.2.2; omega) (by simp)
      rw [show flat [(Value.slice (some ⟨y1.drew.heap.size, 0, none⟩) 1 1, [(1 : UInt8)]), (Value.slice (some ⟨p2, 0, none⟩) a.length a.length, a), (Value.slice (some ⟨p6, 0, none⟩) b.length b.length, b)] = 1 :: (a ++ b) by simp [flat]] at SU
      rw [HJ.out.2.2.2.1, HJ.out.2.2.2.2] at SU
      simp only [List.length_cons, List.length_nil, List.map_cons, List.map_nil, World.size_alloc, World.size_drew] at SU
      rw [show bvs (sha (1 :: (a ++ b))) = res from HRES.out.symm] at SU
      have SH := Lib.hid SU
      have HV2 := Lib.hid (And.intro v2 ty)
      have hrl : res.length = 32 := by rw [HRES.out, bvs_length]; exact HLEN.out
      have hr1 : ∀ u ∈ res, u.oneCell' = true := by rw [HRES.out]; exact bvs_one _
      have Q_sz := Lib.hid (show (Tryz.prog.info? 53).map (·.size) = some res.length by rw [size_hash, hrl])
      have Q_l := Lib.hid (show (bvs a).length = res.length by rw [bvs_length, HJ.out.2.2.2.1, hrl])
      have Q_1 := Lib.hid hr1
      clear ty v2 v6 sa sb s1 SU hp6 l6 l2 hrl hr1
      refine rk0 (fun _ => True) (fun _ => True) 6 6 ?_
      refine rkA 1 14 2 (v := ?_) ?_ (.mk' trivial trivial) ?_
      rotate_left
      · intro W hS; go_simp; all_goals with_reducible rfl
      try simp only [sI, sS, sZ]
      refine rkA 2 15 6 (v := ?_) ?_ (.mk' trivial trivial) ?_
      rotate_left
      · intro W hS; go_simp; all_goals with_reducible rfl
      try simp only [sI, sS, sZ]
      refine rk1 0 7 (fun K hK => ?_)
      go_simp
      refine hK _ _ (.mk' trivial trivial) ?_
      clear hK K
      try simp only [sI, sS, sZ]
      refine rk1 3 15 (fun K hK => ?_)
      go_simp
      refine hK _ _ (.mk' trivial trivial) ?_
      clear hK K
      try simp only [sI, sS, sZ]
      refine rk1 4 31 (fun K hK => ?_)
      go_simp
      refine SH.out.mono ?_
      rintro e w5 ⟨rfl, t5⟩
      refine hK _ _ (.mk' trivial trivial) ?_
      clear hK K
      try simp only [sI, sS, sZ]
      refine rk1 5 63 (fun K hK => ?_)
      refine wp_store_blk 53 _ _ (by rfl) p2 (by rfl) res (bvs a) 53 (by rfl) (HV2.out.1.turns (((Turns.refl [] y1).drew.alloc _).trans t5 (by simp)) (by simp)) Q_l.out Q_sz.out Q_1.out (fun w6 hb6 ht6 => ?_)
      refine hK _ _ (.mk' trivial trivial) ?_
      clear hK K
      try simp only [sI, sS, sZ]
      refine rkZ ?_
      have tt : Turns [p2] wr w6 := ((HV2.out.2.drew.alloc (.cells #[.int .u8 1] 5)).trans t5 (by simp) |> fun t => (t.mono (by simp) : Turns [p2] wr w5)).trans ht6 (by simp)
      have HF := Lib.hid (And.intro hb6 (HB.out.2.1.trans tt (by simp)))
      clear hb6 ht6 tt t5
      go_wp2_with fail
      go_roundw
      case rel => exact ⟨1, by omega, by go_num, by rw [show jn 1 a b = twoH a b from rfl, ← HRES.out]; exact HF.out.1, HF.out.2⟩
      case measure => (simp [intOf] <;> omega)
    · obtain rfl : k = 1 := by omega
      rw [show jn 1 a b = twoH a b from rfl, ← HRES.out] at v2
      have HV := Lib.hid (And.intro v2 td)
      have hwp := HS0.out
      clear v2 td
      have hrl : res.length = 32 := by rw [HRES.out, bvs_length]; exact HLEN.out
      have hr1 : ∀ u ∈ res, u.oneCell' = true := by rw [HRES.out]; exact bvs_one _
      have Q_b2 := Lib.hid (H0.out.1.turns HV.out.2 (by simp; omega))
      have Q_l := Lib.hid (show zz.length = res.length by rw [HZL.out, hrl])
      have Q_sz := Lib.hid (show (Tryz.prog.info? 53).map (·.size) = some res.length by rw [size_hash, hrl])
      have Q_1 := Lib.hid hr1
      clear hrl hr1
      go_wp2_with (first
        | (refine wpList_load_blk rfl 53 (.tmp 2) rfl p2 (by kernel_rfl) res _ _ HV.out.1 Tryz.underlying53 rfl Q_sz.out ?_)
        | (refine wpList_store_blk rfl 53 (.tmp 4) (.tmp 19) rfl w.heap.size (by kernel_rfl) res zz 53 (by kernel_rfl) Q_b2.out Q_l.out Q_sz.out Q_1.out (fun w9 hb9 ht9 hs9 => ?_); have HQ9 := Lib.hid (And.intro hb9 ht9); clear hb9 ht9 hs9)
        | fail)
      refine bodyPost_ret (results_cell_row rfl _ _ w.heap.size _ _ _ _ (by kernel_rfl) HQ9.out.1 Tryz.underlying53 rfl (by rw [List.size_toArray]; exact Q_sz.out)) rfl ?_
      have hS0 := HS0.out
      exact ⟨rfl, ((HT0.out.trans H0.out.2 (by simp)).trans HV.out.2 (by simp; have := HP2.out; omega)).trans HQ9.out.2 (by simp; have := HP2.out; omega)⟩
end Go.Proofs.YtoahnhphfabajaaGreat
namespace Go.Proofs.YtoahnhphfabajaaGreat
set_option maxRecDepth 10000
open Go.RowKit
set_option linter.unusedVariables false
set_option linter.unusedSimpArgs false
set_option linter.unnecessarySimpa false

set_option maxRecDepth 100000 in
set_option maxHeartbeats 2000000 in
theorem Root_any : ∀ (N : Nat) (hs : List (List UInt8)) (n : Nat), hs.length = n → n ≤ N → n ≤ 1000000 → ∀ (A : Option Addr) (c B : Nat) (w : World), Hs w B (.slice A n c) hs → B ≤ w.heap.size →
    Calls Tryz.prog 64 #[.slice A n c] w fun e w' => e = .returned (.agg (bvs (mroot hs)).toArray) ∧ Turns [] w w'
  | N, hs, n, hn, hnN, hnm, A, c, B, w, h, hB => by
    obtain ⟨res, hres⟩ : ∃ r, r = bvs (mroot hs) := ⟨_, rfl⟩
    rw [← hres]
    have HRES := Lib.hid hres
    have hz32 := zero_hash
    have hzl := zeros32_len
    have b2 := Blk.new w (bvs (zeros 32)) 53
    have t1 := (Turns.refl [] w).alloc (.cells (bvs (zeros 32)).toArray 53)
    generalize hzz : bvs (zeros 32) = zz at hz32 hzl b2 t1
    obtain ⟨w1, hw1⟩ : ∃ x, x = w.alloc (.cells zz.toArray 53) := ⟨_, rfl⟩
    rw [← hw1] at b2 t1
    have hs1 : w1.heap.size = w.heap.size + 1 := by rw [hw1]; simp
    have HS1 := Lib.hid hs1
    have HW1 := Lib.hid hw1
    have HZL := Lib.hid hzl
    have H0 := Lib.hid (And.intro b2 t1)
    clear hres hzz hw1 hzl b2 t1 hs1
    have HLEN := Lib.hid (show (mroot hs).length = 32 from mroot_len hs h.all)
    have h1 := (h.turns H0.out.2 hB (by simp))
    have hB1 := Nat.le_trans hB H0.out.2.size
    obtain ⟨_, _, hv, hnc, hcm⟩ := h.form
    injection hv with e1 e2 e3
    subst e1 e3
    clear e2 h hB
    rcases Nat.lt_or_ge n 1 with hn0 | hn0
    · obtain rfl : n = 0 := by omega
      have : hs = [] := List.eq_nil_of_length_eq_zero hn
      subst this
      have SU := Sum_any (.slice none 0 0) [] w1 Sl.nil (by simp) (by simp [flat]) (by simp)
      rw [show bvs (sha (flat [])) = res by rw [HRES.out, mroot_nil]; rfl] at SU
      have SH := Lib.hid SU
      clear SU hn hnN hnm h1 hB1 hnc hcm hn0
      go_enter Tryz.func64, Tryz.ntmps64
      go_upto_region 1 with (first | (refine wpList_alloc_arr (o := ⟨some 2, _, _, _, _, _⟩) rfl 53 rfl zz.toArray hz32 ?_) | fail)
      try simp only [Act.put, List.setIfInBounds_toArray, List.set_cons_succ, List.set_cons_zero]
      rw [← HW1.out]
      go_wp2_with fail
      refine SH.out.mono ?_
      rintro e w2 ⟨rfl, t2⟩
      have H2 := Lib.hid t2
      clear t2 SH
      have hrl : res.length = 32 := by rw [HRES.out, bvs_length]; exact HLEN.out
      have hr1 : ∀ u ∈ res, u.oneCell' = true := by rw [HRES.out]; exact bvs_one _
      have Q_b2 := Lib.hid (H0.out.1.turns H2.out (by simp))
      have Q_l := Lib.hid (show zz.length = res.length by rw [HZL.out, hrl])
      have Q_sz := Lib.hid (show (Tryz.prog.info? 53).map (·.size) = some res.length by rw [size_hash, hrl])
      have Q_1 := Lib.hid hr1
      clear hrl hr1
      go_wp2_with (first
        | (refine wpList_store_blk rfl 53 (.tmp 2) (.tmp 8) rfl w.heap.size (by kernel_rfl) res zz 53 (by kernel_rfl) Q_b2.out Q_l.out Q_sz.out Q_1.out (fun w9 hb9 ht9 hs9 => ?_); have HQ9 := Lib.hid (And.intro hb9 ht9); clear hb9 ht9 hs9)
        | fail)
      refine bodyPost_ret (results_cell_row rfl _ _ w.heap.size _ _ _ _ (by kernel_rfl) HQ9.out.1 Tryz.underlying53 rfl (by rw [List.size_toArray]; exact Q_sz.out)) rfl ?_
      exact ⟨rfl, (H0.out.2.trans H2.out (by simp)).trans HQ9.out.2 (by simp)⟩
    · rcases Nat.lt_or_ge n 2 with hn2 | hn2
      · obtain rfl : n = 1 := by omega
        obtain ⟨x, rfl⟩ := List.length_eq_one_iff.1 hn
        rw [mroot_one] at HRES
        have HLX := Lib.hid (show x.length = 32 from h1.all x (by simp))
        obtain ⟨b0, off, rfl, hb0, r0⟩ := h1.at_ (i := 0) (by simp)
        rw [Nat.zero_mul, Nat.add_zero, List.getElem_cons_zero, ← HRES.out] at r0
        have R0 := Lib.hid r0
        have hc1 : (1 : Int) ≤ (c : Int) := by omega
        have HLEN := Lib.hid (show (x).length = 32 from h1.all x (by simp))
        clear r0 hn hnN hnm h1 hB1 hnc hcm hn0 hb0 hn2
        go_enter Tryz.func64, Tryz.ntmps64
        go_upto_region 1 with (first | (refine wpList_alloc_arr (o := ⟨some 2, _, _, _, _, _⟩) rfl 53 rfl zz.toArray hz32 ?_) | fail)
        try simp only [Act.put, List.setIfInBounds_toArray, List.set_cons_succ, List.set_cons_zero]
        rw [← HW1.out]
        have hrl : res.length = 32 := by rw [HRES.out, bvs_length]; exact HLEN.out
        have hr1 : ∀ u ∈ res, u.oneCell' = true := by rw [HRES.out]; exact bvs_one _
        have Q_b2 := Lib.hid (H0.out.1)
        have Q_l := Lib.hid (show zz.length = res.length by rw [HZL.out, hrl])
        have Q_sz := Lib.hid (show (Tryz.prog.info? 53).map (·.size) = some res.length by rw [size_hash, hrl])
        have Q_1 := Lib.hid hr1
        clear hrl hr1
        go_wp2_with (first
          | (refine wpList_load_mid rfl 53 (.tmp 12) rfl b0 off (by kernel_rfl) res _ R0.out Tryz.underlying53 rfl Q_sz.out ?_)
          | (refine wpList_store_blk rfl 53 (.tmp 2) (.tmp 13) rfl w.heap.size (by kernel_rfl) res zz 53 (by kernel_rfl) Q_b2.out Q_l.out Q_sz.out Q_1.out (fun w9 hb9 ht9 hs9 => ?_); have HQ9 := Lib.hid (And.intro hb9 ht9); clear hb9 ht9 hs9)
          | fail)
        refine bodyPost_ret (results_cell_row rfl _ _ w.heap.size _ _ _ _ (by kernel_rfl) HQ9.out.1 Tryz.underlying53 rfl (by rw [List.size_toArray]; exact Q_sz.out)) rfl ?_
        exact ⟨rfl, H0.out.2.trans HQ9.out.2 (by simp)⟩
      · have hk1 := mcut_pos n
        have hk2 := mcut_lt n hn2
        have hm2 := mroot_two hs (by omega)
        rw [hn] at hm2
        have CU := cut_any n (by omega) w1
        obtain ⟨k, hk⟩ : ∃ k, k = mcut n := ⟨_, rfl⟩
        rw [← hk] at hk1 hk2 hm2 CU
        have hto := h1.to (k := k) (by omega)
        have hfr := h1.from_ (k := k) (by omega) hn.symm
        have htl : (hs.take k).length = k := by rw [List.length_take]; omega
        have hdl : (hs.drop k).length = n - k := by rw [List.length_drop]; omega
        have IH1 := Root_any (n - 1) (hs.take k) k htl (by omega) (by omega) A c B
        have IH2 := Root_any (n - 1) (hs.drop k) (n - k) hdl (by omega) (by omega) (if c = k then A else A.map fun x => x.add (k * 32)) (c - k) B
        have HC := Lib.hid CU
        have HT := Lib.hid (And.intro hto (And.intro hfr hB1))
        have I1 := Lib.hid IH1
        have I2 := Lib.hid IH2
        have HM2 := Lib.hid hm2
        have HHN := Lib.hid (And.intro hn (And.intro htl (And.intro hdl (And.intro hto.all hfr.all))))
        have z0 : ((n : Int) == 0) = false := by simp; omega
        have z1 : ((n : Int) == 1) = false := by simp; omega
        have z2 : (n : Int) ≤ 1000000 := by omega
        have z3 : (k : Int) ≤ (c : Int) := by omega
        have z4 : (k : Int) ≤ (n : Int) := by omega
        have HK := Lib.hid hk
        clear h1 hB1 hto hfr htl hdl IH1 IH2 CU hm2 hn hnN hnm hn0 hk hk1 hnc hcm hk2 hn2
        go_enter Tryz.func64, Tryz.ntmps64
        go_upto_region 1 with (first | (refine wpList_alloc_arr (o := ⟨some 2, _, _, _, _, _⟩) rfl 53 rfl zz.toArray hz32 ?_) | fail)
        try simp only [Act.put, List.setIfInBounds_toArray, List.set_cons_succ, List.set_cons_zero]
        rw [← HW1.out]
        go_wp2_with fail
        refine HC.out.mono ?_
        rintro e w2 ⟨rfl, rfl⟩
        clear HC
        go_upto_region 7 with fail
        refine rk0 (fun _ => True) (fun _ => True) 11 11 ?_
        refine rkA 0 17 1 (v := ?_) ?_ (.mk' trivial trivial) ?_
        rotate_left
        · intro W hS; go_simp; all_goals with_reducible rfl
        try simp only [sI, sS, sZ]
        refine rkA 1 18 3 (v := ?_) ?_ (.mk' trivial trivial) ?_
        rotate_left
        · intro W hS; go_simp; all_goals with_reducible rfl
        try simp only [sI, sS, sZ]
        refine rkA 2 19 7 (v := ?_) ?_ (.mk' trivial trivial) ?_
        rotate_left
        · intro W hS; go_simp; all_goals with_reducible rfl
        try simp only [sI, sS, sZ]
        refine rkA 4 21 23 (v := ?_) ?_ (.mk' trivial trivial) ?_
        rotate_left
        · intro W hS; go_simp; all_goals with_reducible rfl
        try simp only [sI, sS, sZ]
        refine rkA 5 22 55 (v := ?_) ?_ (.mk' trivial trivial) ?_
        rotate_left
        · intro W hS; go_simp; all_goals with_reducible rfl
        try simp only [sI, sS, sZ]
        refine rkA 6 23 119 (v := ?_) ?_ (.mk' trivial trivial) ?_
        rotate_left
        · intro W hS; go_simp; all_goals with_reducible rfl
        try simp only [sI, sS, sZ]
        refine rk1 3 127 (fun K hK => ?_)
        go_simp
        refine (I1.out _ HT.out.1.drew HT.out.2.2).mono ?_
        rintro e w3 ⟨rfl, t3⟩
        refine hK _ _ (.mk' trivial trivial) ?_
        clear hK K
        try simp only [sI, sS, sZ]
        refine rk1 7 255 (fun K hK => ?_)
        go_simp
        refine (I2.out _ (HT.out.2.1.turns ((Turns.refl [] w1).drew.trans t3 (by simp)) HT.out.2.2 (by simp)) (Nat.le_trans HT.out.2.2 t3.size)).mono ?_
        rintro e w4 ⟨rfl, t4⟩
        refine hK _ _ (.mk' trivial trivial) ?_
        clear hK K
        try simp only [sI, sS, sZ]
        refine rk1 8 511 (fun K hK => ?_)
        refine wp_build_hash1 (mroot (hs.drop k)) (mroot_len _ HHN.out.2.2.2.2) (.tmp 24) (by rfl) (by rfl) ?_
        refine hK _ _ (.mk' trivial trivial) ?_
        clear hK K
        try simp only [sI, sS, sZ]
        refine rk1 9 1023 (fun K hK => ?_)
        go_simp
        refine (joined_any (mroot (hs.take k)) (mroot (hs.drop k)) (mroot_len _ HHN.out.2.2.2.1) _ _ _ _ (Hs.one w4 _ (mroot_len _ HHN.out.2.2.2.2) _) (by simp)).mono ?_
        rintro e w5 ⟨rfl, t5⟩
        rw [show bvs (twoH (mroot (hs.take k)) (mroot (hs.drop k))) = res by rw [HRES.out, HM2.out]]
        have t15 : Turns [] w1 w5 := ((((Turns.refl [] w1).drew.trans t3 (by simp)).trans t4 (by simp)).alloc _).trans t5 (by simp)
        have hrl : res.length = 32 := by rw [HRES.out, bvs_length]; exact HLEN.out
        have hr1 : ∀ u ∈ res, u.oneCell' = true := by rw [HRES.out]; exact bvs_one _
        have Q_sz := Lib.hid (show (Tryz.prog.info? 53).map (·.size) = some res.length by rw [size_hash, hrl])
        have Q_l := Lib.hid (show zz.length = res.length by rw [HZL.out, hrl])
        have Q_1 := Lib.hid hr1
        clear hrl hr1
        refine hK _ _ (.mk' trivial trivial) ?_
        clear hK K
        try simp only [sI, sS, sZ]
        refine rk1 10 2047 (fun K hK => ?_)
        refine wp_store_blk 53 _ _ (by rfl) w.heap.size (by rfl) res zz 53 (by rfl) (H0.out.1.turns t15 (by simp)) Q_l.out Q_sz.out Q_1.out (fun w6 hb6 ht6 => ?_)
        refine hK _ _ (.mk' trivial trivial) ?_
        clear hK K
        try simp only [sI, sS, sZ]
        refine rkZ ?_
        have HF := Lib.hid (And.intro hb6 (And.intro t15 ht6))
        clear hb6 ht6 t15 t3 t4 t5
        go_wp2_with fail
        all_goals refine bodyPost_ret (results_cell_row rfl _ _ w.heap.size _ _ _ _ (by kernel_rfl) HF.out.1 Tryz.underlying53 rfl (by rw [List.size_toArray]; exact Q_sz.out)) rfl ?_
        all_goals exact ⟨rfl, (H0.out.2.trans HF.out.2.1 (by simp)).trans HF.out.2.2 (by simp)⟩
  termination_by N => N
  decreasing_by all_goals omega
end Go.Proofs.YtoahnhphfabajaaGreat
namespace Go.Proofs.YtoahnhphfabajaaGreat
set_option maxRecDepth 10000
open Go.RowKit
set_option linter.unusedVariables false
set_option linter.unusedSimpArgs false
set_option linter.unnecessarySimpa false

set_option maxRecDepth 100000 in
set_option maxHeartbeats 2000000 in
theorem refRoot_any : ∀ (N : Nat) (hs : List (List UInt8)) (n : Nat), hs.length = n → n ≤ N → n ≤ 1000000 → ∀ (A : Option Addr) (c B : Nat) (w : World), Hs w B (.slice A n c) hs → B ≤ w.heap.size →
    Calls Tryz.prog 34 #[.slice A n c] w fun e w' => e = .returned (.agg (bvs (mroot hs)).toArray) ∧ Turns [] w w'
  | N, hs, n, hn, hnN, hnm, A, c, B, w, h, hB => by
    obtain ⟨res, hres⟩ : ∃ r, r = bvs (mroot hs) := ⟨_, rfl⟩
    rw [← hres]
    have HRES := Lib.hid hres
    have hz32 := zero_hash
    have hzl := zeros32_len
    have b2 := Blk.new w (bvs (zeros 32)) 53
    have t1 := (Turns.refl [] w).alloc (.cells (bvs (zeros 32)).toArray 53)
    generalize hzz : bvs (zeros 32) = zz at hz32 hzl b2 t1
    obtain ⟨w1, hw1⟩ : ∃ x, x = w.alloc (.cells zz.toArray 53) := ⟨_, rfl⟩
    rw [← hw1] at b2 t1
    have hs1 : w1.heap.size = w.heap.size + 1 := by rw [hw1]; simp
    have HS1 := Lib.hid hs1
    have HW1 := Lib.hid hw1
    have HZL := Lib.hid hzl
    have H0 := Lib.hid (And.intro b2 t1)
    clear hres hzz hw1 hzl b2 t1 hs1
    have HLEN := Lib.hid (show (mroot hs).length = 32 from mroot_len hs h.all)
    have h1 := (h.turns H0.out.2 hB (by simp))
    have hB1 := Nat.le_trans hB H0.out.2.size
    obtain ⟨_, _, hv, hnc, hcm⟩ := h.form
    injection hv with e1 e2 e3
    subst e1 e3
    clear e2 h hB
    rcases Nat.lt_or_ge n 1 with hn0 | hn0
    · obtain rfl : n = 0 := by omega
      have : hs = [] := List.eq_nil_of_length_eq_zero hn
      subst this
      have SU := refSum_any none 0 0 0 [] w1 Sl.nil (by simp) (by simp)
      rw [show bvs (sha []) = res by rw [HRES.out, mroot_nil]] at SU
      have SH := Lib.hid SU
      clear SU hn hnN hnm h1 hB1 hnc hcm hn0
      go_enter Tryz.func34, Tryz.ntmps34
      go_upto_region 1 with (first | (refine wpList_alloc_arr (o := ⟨some 2, _, _, _, _, _⟩) rfl 53 rfl zz.toArray hz32 ?_) | fail)
      try simp only [Act.put, List.setIfInBounds_toArray, List.set_cons_succ, List.set_cons_zero]
      rw [← HW1.out]
      go_wp2_with fail
      refine SH.out.mono ?_
      rintro e w2 ⟨rfl, t2⟩
      have H2 := Lib.hid t2
      clear t2 SH
      have hrl : res.length = 32 := by rw [HRES.out, bvs_length]; exact HLEN.out
      have hr1 : ∀ u ∈ res, u.oneCell' = true := by rw [HRES.out]; exact bvs_one _
      have Q_b2 := Lib.hid (H0.out.1.turns H2.out (by simp))
      have Q_l := Lib.hid (show zz.length = res.length by rw [HZL.out, hrl])
      have Q_sz := Lib.hid (show (Tryz.prog.info? 53).map (·.size) = some res.length by rw [size_hash, hrl])
      have Q_1 := Lib.hid hr1
      clear hrl hr1
      go_wp2_with (first
        | (refine wpList_store_blk rfl 53 (.tmp 2) (.tmp 8) rfl w.heap.size (by kernel_rfl) res zz 53 (by kernel_rfl) Q_b2.out Q_l.out Q_sz.out Q_1.out (fun w9 hb9 ht9 hs9 => ?_); have HQ9 := Lib.hid (And.intro hb9 ht9); clear hb9 ht9 hs9)
        | fail)
      refine bodyPost_ret (results_cell_row rfl _ _ w.heap.size _ _ _ _ (by kernel_rfl) HQ9.out.1 Tryz.underlying53 rfl (by rw [List.size_toArray]; exact Q_sz.out)) rfl ?_
      exact ⟨rfl, (H0.out.2.trans H2.out (by simp)).trans HQ9.out.2 (by simp)⟩
    · rcases Nat.lt_or_ge n 2 with hn2 | hn2
      · obtain rfl : n = 1 := by omega
        obtain ⟨x, rfl⟩ := List.length_eq_one_iff.1 hn
        rw [mroot_one] at HRES
        have HLX := Lib.hid (show x.length = 32 from h1.all x (by simp))
        obtain ⟨b0, off, rfl, hb0, r0⟩ := h1.at_ (i := 0) (by simp)
        rw [Nat.zero_mul, Nat.add_zero, List.getElem_cons_zero, ← HRES.out] at r0
        have R0 := Lib.hid r0
        have hc1 : (1 : Int) ≤ (c : Int) := by omega
        have HLEN := Lib.hid (show (x).length = 32 from h1.all x (by simp))
        clear r0 hn hnN hnm h1 hB1 hnc hcm hn0 hb0 hn2
        go_enter Tryz.func34, Tryz.ntmps34
        go_upto_region 1 with (first | (refine wpList_alloc_arr (o := ⟨some 2, _, _, _, _, _⟩) rfl 53 rfl zz.toArray hz32 ?_) | fail)
        try simp only [Act.put, List.setIfInBounds_toArray, List.set_cons_succ, List.set_cons_zero]
        rw [← HW1.out]
        have hrl : res.length = 32 := by rw [HRES.out, bvs_length]; exact HLEN.out
        have hr1 : ∀ u ∈ res, u.oneCell' = true := by rw [HRES.out]; exact bvs_one _
        have Q_b2 := Lib.hid (H0.out.1)
        have Q_l := Lib.hid (show zz.length = res.length by rw [HZL.out, hrl])
        have Q_sz := Lib.hid (show (Tryz.prog.info? 53).map (·.size) = some res.length by rw [size_hash, hrl])
        have Q_1 := Lib.hid hr1
        clear hrl hr1
        go_wp2_with (first
          | (refine wpList_load_mid rfl 53 (.tmp 12) rfl b0 off (by kernel_rfl) res _ R0.out Tryz.underlying53 rfl Q_sz.out ?_)
          | (refine wpList_store_blk rfl 53 (.tmp 2) (.tmp 13) rfl w.heap.size (by kernel_rfl) res zz 53 (by kernel_rfl) Q_b2.out Q_l.out Q_sz.out Q_1.out (fun w9 hb9 ht9 hs9 => ?_); have HQ9 := Lib.hid (And.intro hb9 ht9); clear hb9 ht9 hs9)
          | fail)
        refine bodyPost_ret (results_cell_row rfl _ _ w.heap.size _ _ _ _ (by kernel_rfl) HQ9.out.1 Tryz.underlying53 rfl (by rw [List.size_toArray]; exact Q_sz.out)) rfl ?_
        exact ⟨rfl, H0.out.2.trans HQ9.out.2 (by simp)⟩
      · have hk1 := mcut_pos n
        have hk2 := mcut_lt n hn2
        have hm2 := mroot_two hs (by omega)
        rw [hn] at hm2
        have CU := part_any n (by omega) w1
        obtain ⟨k, hk⟩ : ∃ k, k = mcut n := ⟨_, rfl⟩
        rw [← hk] at hk1 hk2 hm2 CU
        have hto := h1.to (k := k) (by omega)
        have hfr := h1.from_ (k := k) (by omega) hn.symm
        have htl : (hs.take k).length = k := by rw [List.length_take]; omega
        have hdl : (hs.drop k).length = n - k := by rw [List.length_drop]; omega
        have IH1 := refRoot_any (n - 1) (hs.take k) k htl (by omega) (by omega) A c B
        have IH2 := refRoot_any (n - 1) (hs.drop k) (n - k) hdl (by omega) (by omega) (if c = k then A else A.map fun x => x.add (k * 32)) (c - k) B
        have HC := Lib.hid CU
        have HT := Lib.hid (And.intro hto (And.intro hfr hB1))
        have I1 := Lib.hid IH1
        have I2 := Lib.hid IH2
        have HM2 := Lib.hid hm2
        have HHN := Lib.hid (And.intro hn (And.intro htl (And.intro hdl (And.intro hto.all hfr.all))))
        have z0 : ((n : Int) == 0) = false := by simp; omega
        have z1 : ((n : Int) == 1) = false := by simp; omega
        have z2 : (n : Int) ≤ 1000000 := by omega
        have z3 : (k : Int) ≤ (c : Int) := by omega
        have z4 : (k : Int) ≤ (n : Int) := by omega
        have HK := Lib.hid hk
        clear h1 hB1 hto hfr htl hdl IH1 IH2 CU hm2 hn hnN hnm hn0 hk hk1 hnc hcm hk2 hn2
        go_enter Tryz.func34, Tryz.ntmps34
        go_upto_region 1 with (first | (refine wpList_alloc_arr (o := ⟨some 2, _, _, _, _, _⟩) rfl 53 rfl zz.toArray hz32 ?_) | fail)
        try simp only [Act.put, List.setIfInBounds_toArray, List.set_cons_succ, List.set_cons_zero]
        rw [← HW1.out]
        go_wp2_with fail
        refine HC.out.mono ?_
        rintro e w2 ⟨rfl, rfl⟩
        clear HC
        go_upto_region 7 with fail
        refine rk0 (fun _ => True) (fun _ => True) 10 10 ?_
        refine rkA 0 17 1 (v := ?_) ?_ (.mk' trivial trivial) ?_
        rotate_left
        · intro W hS; go_simp; all_goals with_reducible rfl
        try simp only [sI, sS, sZ]
        refine rkA 1 18 3 (v := ?_) ?_ (.mk' trivial trivial) ?_
        rotate_left
        · intro W hS; go_simp; all_goals with_reducible rfl
        try simp only [sI, sS, sZ]
        refine rkA 2 19 7 (v := ?_) ?_ (.mk' trivial trivial) ?_
        rotate_left
        · intro W hS; go_simp; all_goals with_reducible rfl
        try simp only [sI, sS, sZ]
        refine rkA 4 21 23 (v := ?_) ?_ (.mk' trivial trivial) ?_
        rotate_left
        · intro W hS; go_simp; all_goals with_reducible rfl
        try simp only [sI, sS, sZ]
        refine rkA 5 22 55 (v := ?_) ?_ (.mk' trivial trivial) ?_
        rotate_left
        · intro W hS; go_simp; all_goals with_reducible rfl
        try simp only [sI, sS, sZ]
        refine rkA 6 23 119 (v := ?_) ?_ (.mk' trivial trivial) ?_
        rotate_left
        · intro W hS; go_simp; all_goals with_reducible rfl
        try simp only [sI, sS, sZ]
        refine rk1 3 127 (fun K hK => ?_)
        go_simp
        refine (I1.out _ HT.out.1.drew HT.out.2.2).mono ?_
        rintro e w3 ⟨rfl, t3⟩
        refine hK _ _ (.mk' trivial trivial) ?_
        clear hK K
        try simp only [sI, sS, sZ]
        refine rk1 7 255 (fun K hK => ?_)
        go_simp
        refine (I2.out _ (HT.out.2.1.turns ((Turns.refl [] w1).drew.trans t3 (by simp)) HT.out.2.2 (by simp)) (Nat.le_trans HT.out.2.2 t3.size)).mono ?_
        rintro e w4 ⟨rfl, t4⟩
        refine hK _ _ (.mk' trivial trivial) ?_
        clear hK K
        try simp only [sI, sS, sZ]
        refine rk1 8 511 (fun K hK => ?_)
        go_simp
        refine (Two_any (mroot (hs.take k)) (mroot (hs.drop k)) (mroot_len _ HHN.out.2.2.2.1) (mroot_len _ HHN.out.2.2.2.2) _).mono ?_
        rintro e w5 ⟨rfl, t5⟩
        rw [show bvs (twoH (mroot (hs.take k)) (mroot (hs.drop k))) = res by rw [HRES.out, HM2.out]]
        have t15 : Turns [] w1 w5 := (((Turns.refl [] w1).drew.trans t3 (by simp)).trans t4 (by simp)).trans t5 (by simp)
        have hrl : res.length = 32 := by rw [HRES.out, bvs_length]; exact HLEN.out
        have hr1 : ∀ u ∈ res, u.oneCell' = true := by rw [HRES.out]; exact bvs_one _
        have Q_sz := Lib.hid (show (Tryz.prog.info? 53).map (·.size) = some res.length by rw [size_hash, hrl])
        have Q_l := Lib.hid (show zz.length = res.length by rw [HZL.out, hrl])
        have Q_1 := Lib.hid hr1
        clear hrl hr1
        refine hK _ _ (.mk' trivial trivial) ?_
        clear hK K
        try simp only [sI, sS, sZ]
        refine rk1 9 1023 (fun K hK => ?_)
        refine wp_store_blk 53 _ _ (by rfl) w.heap.size (by rfl) res zz 53 (by rfl) (H0.out.1.turns t15 (by simp)) Q_l.out Q_sz.out Q_1.out (fun w6 hb6 ht6 => ?_)
        refine hK _ _ (.mk' trivial trivial) ?_
        clear hK K
        try simp only [sI, sS, sZ]
        refine rkZ ?_
        have HF := Lib.hid (And.intro hb6 (And.intro t15 ht6))
        clear hb6 ht6 t15 t3 t4 t5
        go_wp2_with fail
        all_goals refine bodyPost_ret (results_cell_row rfl _ _ w.heap.size _ _ _ _ (by kernel_rfl) HF.out.1 Tryz.underlying53 rfl (by rw [List.size_toArray]; exact Q_sz.out)) rfl ?_
        all_goals exact ⟨rfl, (H0.out.2.trans HF.out.2.1 (by simp)).trans HF.out.2.2 (by simp)⟩
  termination_by N => N
  decreasing_by all_goals omega
end Go.Proofs.YtoahnhphfabajaaGreat
namespace Go.Proofs.YtoahnhphfabajaaGreat
set_option maxRecDepth 10000
open Go.RowKit
set_option linter.unusedVariables false
set_option linter.unusedSimpArgs false
set_option linter.unnecessarySimpa false

theorem sz_u8 (w : World) : (sizeOf 5).run Tryz.prog w = .ok 1 w := by kernel_rfl
theorem und_hash : Tryz.prog.underlying 53 = some (.array 32 5) := by kernel_rfl
theorem und_u8 : Tryz.prog.underlying 5 = some (.int .u8) := by kernel_rfl
theorem eqlH (x y : List UInt8) (hx : x.length = 32) (hy : y.length = 32) : ∀ w, (Op.equalIn 10000 53 (.agg (bvs x).toArray) (.agg (bvs y).toArray)).run Tryz.prog w = .ok (x == y) w :=
  fun w => run_equalIn_bytes w 9998 53 5 32 und_hash und_u8 sz_u8 x y hx hy
theorem eqlS (x : List UInt8) (hx : x.length = 32) : ∀ w, (Op.equalIn 10000 53 (.agg (bvs x).toArray) (.agg (bvs x).toArray)).run Tryz.prog w = .ok true w :=
  fun w => by rw [eqlH x x hx hx w]; simp

theorem T23 : SliceTy Tryz.prog 68 53 (.agg (bvs (zeros 32)).toArray) 32 32 := ⟨Tryz.underlying68, by kernel_rfl, by kernel_rfl, by omega⟩
/-- A row of sums of one's own, made behind W0. -/
structure HMine (W0 w : World) (v : Value) (hs : List (List UInt8)) : Prop where
  own : w.ownsRow W0.heap.size 53 32 v hs.length (hcells hs)
  turns : Turns [] W0 w
  all : ∀ h ∈ hs, h.length = 32
theorem HMine.nil {W0 w : World} (t : Turns [] W0 w) : HMine W0 w (.slice none 0 0) [] := ⟨World.ownsRow_nil _ _ _ _, t, by simp⟩
theorem HMine.hs {W0 w : World} {v : Value} {hs : List (List UInt8)} (h : HMine W0 w v hs) : Hs w w.heap.size v hs := ⟨Sl.of_own h.own, h.all⟩
theorem HMine.on {W0 w w' : World} {v : Value} {hs : List (List UInt8)} (h : HMine W0 w v hs) (t : Turns [] w w') : HMine W0 w' v hs := by
  refine ⟨?_, h.turns.trans t (by simp), h.all⟩
  obtain ⟨h1, h2⟩ := h.own
  refine ⟨h1, ?_⟩
  rcases h2 with h2 | ⟨g, cap, cur, hv, hg, hh, r⟩
  · exact Or.inl h2
  · refine Or.inr ⟨g, cap, cur, hv, hg, ?_, r⟩
    rw [t.block g (Array.getElem?_eq_some_iff.1 hh).1 (by simp)]
    exact hh
theorem HMine.len {W0 w : World} {v : Value} {hs : List (List UInt8)} (h : HMine W0 w v hs) : ∃ A c, v = .slice A hs.length c ∧ hs.length ≤ c := by
  obtain ⟨A, c, e, h1, _⟩ := h.hs.form
  exact ⟨A, c, e, h1⟩
theorem hmine_append {W0 w : World} {v : Value} {hs : List (List UInt8)} (h : HMine W0 w v hs) {B : Nat} {x : Value} {cs : List (List UInt8)} (hx : Hs w B x cs) (hm : hs.length + cs.length ≤ 1000000000) (ty : TypeId) :
    ∃ v' w', (Builtin.append_ #[68, 68] ty #[v, x]).run Tryz.prog w = .ok v' w' ∧ HMine W0 w' v' (hs ++ cs) := by
  obtain ⟨v1, w1, hr1, ap1⟩ := run_append_rd (P := Tryz.prog) w T23 ty h.own hx.sl (hcells_one _) (by simp only [maxLen]; omega) (by omega) h.turns.size
  refine ⟨v1, w1, hr1, ?_⟩
  rw [← hcells_append] at ap1
  have hl : (hs ++ cs).length = hs.length + cs.length := List.length_append
  refine ⟨by rw [hl]; exact ap1.own, ?_, ?_⟩
  · exact h.turns.trans (L' := v.ownBlock.toList) (Turns.of_grown ap1.grown (by intro k hk; exact .inl (by simpa using hk))) (by intro x hx; exact .inr (h.own.lt x (by simpa using hx)).1)
  · intro y hy
    rcases List.mem_append.1 hy with hy | hy
    · exact h.all y hy
    · exact hx.all y hy
theorem hmine_push {W0 w : World} {v : Value} {hs : List (List UInt8)} (h : HMine W0 w v hs) (hm : hs.length ≤ 1000000) (x : List UInt8) (hx : x.length = 32) (ty : TypeId) :
    ∃ v' w', (Builtin.append_ #[68, 68] ty #[v, .slice (some ⟨w.heap.size, 0, none⟩) 1 1]).run Tryz.prog (w.alloc (.cells (bvs x).toArray 53)) = .ok v' w' ∧ HMine W0 w' v' (hs ++ [x]) :=
  hmine_append (h.on ((Turns.refl [] w).alloc _)) (Hs.one w x hx _) (by simp; omega) ty

end Go.Proofs.YtoahnhphfabajaaGreat
