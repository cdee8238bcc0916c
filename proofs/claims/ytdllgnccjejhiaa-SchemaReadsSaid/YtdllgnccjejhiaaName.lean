/- Which texts are names: the language's words are read once. -/
import Derived.Test.YtdllgnccjejhiaaMapK
import Derived.Test.YtdllgnccjejhiaaOnce
namespace Go.Proofs.Ytdllgnccjejhiaa
open Go.RowKit
set_option linter.unusedVariables false
set_option maxRecDepth 10000
set_option linter.unusedSimpArgs false
set_option linter.unnecessarySimpa false

theorem reserved_len : reserved.length = 41 := rfl
theorem reserved_nodup : reserved.Nodup := by decide +kernel
theorem reserved_new (k : Nat) (hk : k < reserved.length) : reserved[k] ∉ reserved.take k := by
  intro h
  obtain ⟨j, hj, e⟩ := List.mem_iff_getElem.1 h
  rw [List.length_take] at hj
  rw [List.getElem_take] at e
  have := (List.getElem_inj (xs := reserved) (h₀ := by omega) (h₁ := hk) reserved_nodup).1 e
  omega

set_option maxRecDepth 100000 in
theorem language_any (w : World) : Calls Try.prog 62 #[] w fun e w' => e = .returned (.slice (some ⟨w.heap.size, 0, none⟩) 41 41) ∧ w' = w.alloc (.cells (reserved.map Value.string).toArray 9) := by
  go_enter Try.func62, Try.ntmps62
  go_wp2
  go_ret
  exact ⟨rfl, rfl⟩

/-- A speller whose words are not read; whose words are. -/
def Sp0 (w : World) (g : Nat) : Prop := Blk w g [.int .u32 0, .int .i32 0, .int .u32 0, .map none] 68
structure Sp1 (w : World) (g m : Nat) : Prop where
  blk : Blk w g [.int .u32 1, .int .i32 0, .int .u32 0, .map (some m)] 68
  map : MapK w m reserved
  ne : m ≠ g
/-- A speller, and where its words lie, if they are read. -/
def SpAt (w : World) (B g : Nat) : Prop := B ≤ g ∧ (Sp0 w g ∨ ∃ m, B ≤ m ∧ Sp1 w g m)
theorem Sp0.turns {L : List Nat} {w w' : World} {g : Nat} (h : Sp0 w g) (t : Turns L w w') (hg : g ∉ L) : Sp0 w' g := Blk.turns h t hg
theorem Sp1.turns {L : List Nat} {w w' : World} {g m : Nat} (h : Sp1 w g m) (t : Turns L w w') (hg : g ∉ L) (hm : m ∉ L) : Sp1 w' g m := ⟨h.blk.turns t hg, h.map.turns t hm, h.ne⟩
theorem SpAt.turns {w w' : World} {B g : Nat} (h : SpAt w B g) (t : Turns [] w w') : SpAt w' B g :=
  ⟨h.1, h.2.imp (fun h => h.turns t (by simp)) (fun ⟨m, hm, h⟩ => ⟨m, hm, h.turns t (by simp) (by simp)⟩)⟩
theorem SpAt.lt {w : World} {B g : Nat} (h : SpAt w B g) : g < w.heap.size := by
  rcases h.2 with h | ⟨m, _, h⟩
  · exact Blk.lt h
  · exact h.blk.lt

/-- What reading the words leaves. -/
def Rd1 (g : Nat) (w1 w' : World) : Prop := ∃ m, w1.heap.size ≤ m ∧ Blk w' g [.int .u32 0, .int .i32 1, .int .u32 0, .map (some m)] 68 ∧ MapK w' m reserved ∧ Turns [g] w1 w'
set_option maxRecDepth 100000 in
set_option maxHeartbeats 1000000 in
theorem read_any (g : Nat) (w : World) (h : Blk w g [.int .u32 0, .int .i32 1, .int .u32 0, .map none] 68) :
    Calls Try.prog 53 #[.pointer (some ⟨g, 0, none⟩)] w fun e w' => e = .returned (.tuple #[]) ∧ Rd1 g w w' ∧ Once.Held g 0 w' := by
  have c3 : w.cell? ⟨g, 3, none⟩ = some (.map none) := h.cell 3
  have f3 := h.free 3
  have hlt := h.lt
  have LA := Lib.hid (fun W => language_any W)
  have hm1 : MapK ((w.setCell ⟨g, 3, none⟩ (.map (some w.heap.size))).alloc (.map #[] 0)) w.heap.size (reserved.take 0) := MapK.new _ _ (by simp [World.setCell])
  have t0 := ((Turns.refl [g] w).setCell (p := ⟨g, 3, none⟩) (.inl (by simp)) (.map (some w.heap.size))).alloc (.map #[] 0)
  have hb0 := (h.set 3 (.map (some w.heap.size))).alloc (.map #[] 0)
  clear h
  have hmm := @run_makeMap Try.prog
  go_enter Try.func53, Try.ntmps53
  go_wp2_with fail
  generalize hW0 : (w.setCell ⟨g, 3, none⟩ (.map (some w.heap.size))).alloc (.map #[] 0) = w0 at *
  obtain ⟨m, hmd⟩ : ∃ m, m = w.heap.size := ⟨_, rfl⟩
  have hge : w.heap.size ≤ m := by omega
  have hne : m ≠ g := by omega
  rw [← hmd] at hm1 hb0
  have hmd' := Lib.hid hmd
  clear hmd
  clear hW0 hmm
  refine (LA.out w0).mono ?_
  rintro e w1 ⟨rfl, hw1⟩
  have t1 : Turns [] w0 w1 := by rw [hw1]; exact (Turns.refl _ _).alloc _
  have hsl : Sl w1 w1.heap.size 1 (.slice (some ⟨w0.heap.size, 0, none⟩) 41 41) 41 (reserved.map Value.string) := by
    rw [hw1]
    have := (Sl.new w0 (reserved.map Value.string).toArray 9 41 1 rfl (by simp [maxLen])).more (B' := (w0.alloc (.cells (reserved.map Value.string).toArray 9)).heap.size) (by simp)
    simpa using this
  have hb1 := hb0.turns t1 (by simp)
  have hm1 := hm1.turns t1 (by simp)
  have t01 := t0.trans t1 (by simp)
  clear hb0 hw1 t0 t1 LA c3 f3
  generalize w0.heap.size = q at *
  go_wp2_with fail
  go_loopw [10] (fun i wr => ∃ k : Nat, k ≤ 41 ∧ i = .int .i64 k ∧ Blk wr g [.int .u32 0, .int .i32 1, .int .u32 0, .map (some m)] 68 ∧ MapK wr m (reserved.take k) ∧ Sl wr wr.heap.size 1 (.slice (some ⟨q, 0, none⟩) 41 41) 41 (reserved.map Value.string) ∧ Turns [g] w wr) (fun i _ => 41 - (intOf i).toNat)
  case atStart => exact ⟨0, by omega, rfl, hb1, hm1, hsl, t01⟩
  case round =>
    clear hb1 hm1 hsl t01
    obtain ⟨k, hk, rfl, hb, hm, hsl, ht⟩ := hrel
    by_cases hlt : k < 41
    · have hlt' : k < reserved.length := hlt
      have hcq := hsl
      obtain ⟨_, _, _, ee, _, _, _, hrd⟩ := hsl
      injection ee with ee1 _ _
      subst ee1
      obtain ⟨b', o', e1, hb', hc⟩ := Rd.at_ hrd (k := k) (by simpa using hlt')
      injection e1 with e1
      injection e1 with e1 e2 _
      subst e1 e2
      rw [List.getElem_map, Nat.zero_add] at hc
      have hnew := reserved_new k hlt'
      have et := List.take_succ_eq_append_getElem hlt'
      generalize reserved[k] = s at hc hnew et
      obtain ⟨w2, hr, hm2, t2⟩ := run_update_K (P := Try.prog) Try.underlying66 Try.underlying9 hm s hnew
      rw [← et] at hm2
      have c3 : wr.cell? ⟨g, 3, none⟩ = some (.map (some m)) := hb.cell 3
      have hb2 := hb.turns t2 (by simpa using Ne.symm hne)
      have hq : q ≠ m := fun e => by
        have := hm.lt
        have h1 : wr.heap[q]? = some (.map (ents 0 (reserved.take k)).toArray (reserved.take k).length) := by rw [e]; exact hm
        unfold World.cell? at hc
        rw [h1] at hc
        simp at hc
      have hsl2 := t2.slice hcq (Nat.le_refl _) (by intro x hx; simp at hx; subst hx; simp [Value.ownBlock]; exact hq)
      have ht2 := ht.trans (t2.mono (L' := [g, m]) (by intro x hx; simp at hx; simp [hx])) (by intro x hx; simp at hx; rcases hx with rfl | rfl; exact .inl (by simp); exact .inr hge)
      have hsl3 := hsl2.more t2.size
      clear hcq hrd hnew et hm hb hsl2 t2 ht
      go_wp2_with fail
      go_roundw
      case rel => exact ⟨k + 1, by omega, by go_num, hb2, hm2, hsl3, ht2⟩
      case measure => (simp [intOf] <;> omega)
    · obtain rfl : k = 41 := by omega
      rw [show reserved.take 41 = reserved from rfl] at hm
      have hh : Once.Held g 0 wr := ⟨⟨_, hb.cell 0⟩, hb.free 0, hb.cell 1, hb.free 1⟩
      have hR : Rd1 g w wr := ⟨m, hge, hb, hm, ht⟩
      clear hsl
      go_wp2_with fail
      go_end0
      exact ⟨rfl, hR, hh⟩
end Go.Proofs.Ytdllgnccjejhiaa
