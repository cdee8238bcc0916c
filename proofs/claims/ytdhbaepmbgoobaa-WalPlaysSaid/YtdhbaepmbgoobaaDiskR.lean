/- A page is read. -/
import Derived.Test.YtdhbaepmbgoobaaDiskN
namespace Go.Proofs.Ytdhbaepmbgoobaa
open Go.RowKit
set_option linter.unusedVariables false
set_option maxRecDepth 10000
set_option linter.unusedSimpArgs false
set_option linter.unnecessarySimpa false

/-- The n-th page of these bytes. -/
def pageAt (l : List UInt8) (n : Nat) : List UInt8 := (l.drop (n * 64)).take 64

/-- A part of a block, as a slice value. -/
theorem Blk.slice {w : World} {g : Nat} {cs : List Value} {t : TypeId} (h : Blk w g cs t) (o n c : Nat) (hn : o + n ≤ cs.length) (hc : n ≤ c) (hm : c ≤ maxLen) : Sl w w.heap.size 1 (.slice (some ⟨g, o, none⟩) n c) n ((cs.drop o).take n) :=
  ⟨by rw [List.length_take, List.length_drop]; omega, _, _, rfl, hc, hm, (fun h => by cases h), fun _ => ⟨g, o, rfl, h.lt, fun j u hu => h.range o n j u hu⟩⟩

set_option maxHeartbeats 1000000 in
theorem Read_any (w : World) (B : Nat) (D : DL) (p n : Nat) (st : DS) (h : DiskIs w B D p st) (hn : n < p) (hd : st.dead = false) :
    Calls Try.prog 43 #[.pointer (some ⟨D.g, 0, none⟩), .int .i64 n] w fun e w' => ∃ v', e = .returned (.tuple #[v', .int .i64 0]) ∧
      w'.ownsRow w.heap.size 5 1 v' 64 (bvs (pageAt st.now n)) ∧ Below w.heap.size w w' := by
  have hp := h.pages
  have CH := checked_any w B D p st n 0 h
  have hc0 : st.checked p n 0 = 0 := by unfold DS.checked; rw [hd, if_neg (by simp), if_neg (by omega)]
  rw [hc0] at CH
  have CH' := Lib.hid CH
  have c3 : w.cell? ⟨D.g, 3, none⟩ = some (.slice (some ⟨D.m, 0, none⟩) p p) := h.head.cell 3
  have sl := h.now.slice (n * 64) 64 64 (by rw [bvs_length, h.lenN]; omega) (Nat.le_refl _) (by simp [maxLen])
  have e1 : ((bvs st.now).drop (n * 64)).take 64 = bvs (pageAt st.now n) := by unfold pageAt bvs; rw [List.map_take, List.map_drop]
  rw [e1] at sl
  have CL := Lib.hid (Clone_any _ _ _ (bvs_one _) w sl (by omega))
  clear CH hc0 h e1 sl
  go_enter Try.func43, Try.ntmps43
  go_wp2_with fail
  refine CH'.out.mono ?_
  rintro e' ww ⟨rfl, rfl⟩
  go_wp2_with fail
  refine CL.out.mono ?_
  rintro e' w1 ⟨v1, rfl, own1, bel1⟩
  go_wp2_with fail
  go_ret2
  exact ⟨v1, rfl, own1, bel1⟩

/-- Where the page is none, or the power is gone. -/
theorem Read_bad (w : World) (B : Nat) (D : DL) (p : Nat) (n : Int) (st : DS) (h : DiskIs w B D p st) (hc : st.checked p n 0 ≠ 0) :
    Calls Try.prog 43 #[.pointer (some ⟨D.g, 0, none⟩), .int .i64 n] w fun e w' => e = .returned (.tuple #[.slice none 0 0, .int .i64 (st.checked p n 0)]) ∧ w = w' := by
  have CH := Lib.hid (checked_any w B D p st n 0 h)
  generalize st.checked p n 0 = q at *
  clear h
  go_enter Try.func43, Try.ntmps43
  go_wp2_with fail
  refine CH.out.mono ?_
  rintro e' ww ⟨rfl, rfl⟩
  go_wp2_with fail
  go_ret2
  exact ⟨rfl, rfl⟩
end Go.Proofs.Ytdhbaepmbgoobaa
