/- A map from texts to true, known whole. -/
import Derived.Test.YtdllgnccjejhiaaTurns
import Derived.Test.YtdllgnccjejhiaaSch
import Derived.WalkSpells
namespace Go.Proofs.Ytdllgnccjejhiaa
open Go.RowKit
set_option linter.unusedVariables false
set_option maxRecDepth 10000
set_option linter.unusedSimpArgs false

def ents : Nat → List ByteArray → List MapEntry
  | _, [] => []
  | i, s :: ss => ⟨.string s, .bool true, i⟩ :: ents (i + 1) ss
theorem ents_snoc (s : ByteArray) : ∀ (ss : List ByteArray) (i : Nat), ents i (ss ++ [s]) = ents i ss ++ [⟨.string s, .bool true, i + ss.length⟩]
  | [], i => rfl
  | x :: ss, i => by
    rw [List.cons_append, ents, ents_snoc s ss (i + 1), ents, List.length_cons]
    simp [Nat.add_assoc, Nat.add_comm 1]
/-- Block b is a map of these keys, all true. -/
def MapK (w : World) (b : Nat) (ks : List ByteArray) : Prop := w.heap[b]? = some (.map (ents 0 ks).toArray ks.length)
theorem MapK.new (w : World) (n : Nat) (hn : n = w.heap.size) : MapK (w.alloc (.map #[] 0)) n [] := by
  subst hn
  show (w.heap.push _)[w.heap.size]? = _
  simp [ents]
theorem MapK.lt {w : World} {b : Nat} {ks : List ByteArray} (h : MapK w b ks) : b < w.heap.size := (Array.getElem?_eq_some_iff.1 h).1
theorem MapK.turns {L : List Nat} {w w' : World} {b : Nat} {ks : List ByteArray} (h : MapK w b ks) (t : Turns L w w') (hb : b ∉ L) : MapK w' b ks := by
  unfold MapK; rw [t.block b h.lt hb]; exact h

theorem findNow_ents (t : ByteArray) : ∀ (ss : List ByteArray) (i n : Nat), Instr.findNow .string (.string t) (ents i ss) n = some (if t ∈ ss then some (n + (ss.idxOf t), .bool true) else none)
  | [], _, _ => by simp [ents, Instr.findNow]
  | s :: ss, i, n => by
    rw [ents, Instr.findNow, show Instr.sameNow .string (.string t) (.string s) = some (t == s) from rfl]
    by_cases h : t = s
    · subst h
      simp
    · have hb : (t == s) = false := beq_eq_false_iff_ne.2 h
      have hb' : (s == t) = false := beq_eq_false_iff_ne.2 (Ne.symm h)
      rw [hb]
      show Instr.findNow .string (.string t) (ents (i + 1) ss) (n + 1) = _
      rw [findNow_ents t ss (i + 1) (n + 1)]
      by_cases hm : t ∈ ss
      · rw [if_pos hm, if_pos (by simp [hm]), List.idxOf_cons, hb']
        simp [Nat.add_assoc, Nat.add_comm 1]
      · rw [if_neg hm, if_neg (by simp [hm, h])]

section
variable {P : Program} {t k e : TypeId} {w : World} {b : Nat} {ks : List ByteArray}
theorem run_checkKey' (hk : P.underlying k = some .string) (x : Bool) (s : ByteArray) (w : World) (n : Nat) : (Instr.checkKey x (n + 1) k (.string s)).run P w = .ok () w := by
  unfold Instr.checkKey
  simp only [Sem.run_bind, run_underlying hk, Result.andThen_ok]
  rfl
theorem run_checkKey (hk : P.underlying k = some .string) (x : Bool) (s : ByteArray) (w : World) : (Instr.checkKey x 10000 k (.string s)).run P w = .ok () w := run_checkKey' hk x s w 9999
theorem run_findKey (hk : P.underlying k = some .string) (s : ByteArray) (ks : List ByteArray) (w : World) : (Instr.findKey k (.string s) (ents 0 ks)).run P w = .ok (if s ∈ ks then some (0 + ks.idxOf s, .bool true) else none) w := by
  simp only [Instr.findKey, Sem.run_bind, run_underlying hk, Result.andThen_ok, findNow_ents]
  rfl
/-- 'm[k]' of such a map. -/
theorem run_lookup_K (ht : P.underlying t = some (.map k e)) (hk : P.underlying k = some .string) (hz : (zeroValue e).run P w = .ok (.bool false) w) (h : MapK w b ks) (s : ByteArray) :
    (Instr.lookup t (.map (some b)) (.string s) false).run P w = .ok (.bool (ks.contains s)) w := by
  have hg : (getObj b).run P w = .ok (.map (ents 0 ks).toArray ks.length) w := by
    have h' : w.heap[b]? = some (.map (ents 0 ks).toArray ks.length) := h
    simp [getObj, Sem.run, h']
  simp only [Instr.lookup, Sem.run_bind, run_underlying ht, Result.andThen_ok, hg, Sem.run_pure, run_checkKey hk]
  rw [run_findKey hk]
  by_cases hm : s ∈ ks
  · simp [hm]
  · simp [hm, hz]
/-- 'm[k] = true', k new. -/
theorem run_update_K (ht : P.underlying t = some (.map k e)) (hk : P.underlying k = some .string) (h : MapK w b ks) (s : ByteArray) (hs : s ∉ ks) :
    ∃ w', (Instr.mapUpdate t (.map (some b)) (.string s) (.bool true)).run P w = .ok () w' ∧ MapK w' b (ks ++ [s]) ∧ Turns [b] w w' := by
  have h' : w.heap[b]? = some (.map (ents 0 ks).toArray ks.length) := h
  have hg : (getObj b).run P w = .ok (.map (ents 0 ks).toArray ks.length) w := by simp [getObj, Sem.run, h']
  have hlt := h.lt
  refine ⟨{ w with heap := w.heap.setIfInBounds b (.map ((ents 0 ks).toArray.push ⟨.string s, .bool true, ks.length⟩) (ks.length + 1)) }, ?_, ?_, ?_⟩
  · simp only [Instr.mapUpdate, Sem.run_bind, run_underlying ht, Result.andThen_ok, hg, run_checkKey hk]
    rw [run_findKey hk, if_neg hs]
    simp [setObj, Sem.run, h']
  · unfold MapK
    simp [hlt, ents_snoc]
  · refine ⟨rfl, rfl, rfl, by simp, fun j hj hn => ?_⟩
    have hne : b ≠ j := fun e => hn (by simp [e])
    simp [Array.getElem?_setIfInBounds, hne]
end
end Go.Proofs.Ytdllgnccjejhiaa
