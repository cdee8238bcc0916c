/- The chapter's example holds. -/
import Derived.Test.YtemhlnjnbccpgaaDiskC
import Derived.Test.YtemhlnjnbccpgaaDiskT
import Derived.Test.YtemhlnjnbccpgaaDiskR
import Derived.Test.YtemhlnjnbccpgaaPats
namespace Go.Proofs.Ytemhlnjnbccpgaa
open Go.RowKit
set_option linter.unusedVariables false
set_option linter.unusedSimpArgs false
set_option linter.unnecessarySimpa false

def kn0 : List UInt8 := ((zeros 64).set 0 7).set 40 8
theorem kn0_eq : ((bvs (zeros 64)).set 0 (.int .u8 7)).set 40 (.int .u8 8) = bvs kn0 := by simp [bvs, kn0, List.map_set, u8v]
theorem kn0_len : kn0.length = 64 := by simp [kn0, zeros]
def kn1 : DS := ⟨0, false, List.replicate (3 * 64) 0, List.replicate (3 * 64) 0, []⟩
def kn2 : DS := kn1.wrote 1 (pageOf kn0)
def kn3 : DS := kn2.crash [1]
theorem kn3_page : (pageAt kn3.now 1)[0]? = some 7 ∧ (pageAt kn3.now 1)[40]? = some 0 := by decide +kernel

set_option maxRecDepth 100000 in
set_option maxHeartbeats 1000000 in
theorem known_any (w : World) : Calls Try.prog 9 #[] w fun e w' => e = .returned (.bool true) ∧ Below w.heap.size w w' := by
  have NW := Lib.hid (New_any 3 (by omega) (by omega) w)
  have mk := run_make64
  have hz64 : (bvs (zeros 64)).length = 64 := by rw [bvs_length, zeros_length]
  go_enter Try.func9, Try.ntmps9
  go_wp2_with fail
  refine NW.out.mono ?_
  rintro e w1 ⟨D, rfl, h1, bel1⟩
  go_wp2_with fail
  rw [kn0_eq]
  have hB := Blk.new w1 (bvs kn0) 5
  have t1 := (Turns.refl [] w1).alloc (.cells (bvs kn0).toArray 5)
  have h2 := h1.turns t1 (by simp)
  have bel2 := bel1.trans ((t1.below (Nat.le_refl _) (by simp)).mono bel1.size)
  have hsl := hB.sl 0 64 64 1 (by rw [bvs_length, kn0_len]; omega) (Nat.le_refl _) (by simp [maxLen])
  rw [List.drop_zero, List.take_of_length_le (by rw [bvs_length, kn0_len]; omega)] at hsl
  have WR := Lib.hid (Write_any _ _ D 3 1 kn1 _ 64 kn0 h2 hsl (by omega) (by rw [kn0_len]; omega) rfl (by show 0 ≤ _; omega))
  clear mk hz64 hsl hB t1 h1
  generalize w1.alloc (.cells (bvs kn0).toArray 5) = w2 at *
  generalize w1.heap.size = q at *
  rw [show kn1.code = 0 from rfl] at WR
  refine WR.out.mono ?_
  rintro e w3 ⟨D3, rfl, hd3⟩
  clear WR
  have h3 := hd3.is
  have bel3 := bel2.trans (hd3.turns.below bel2.size h2.lowAll)
  have eg := hd3.same.1
  clear hd3 h2 bel2
  have t4 := (Turns.refl [] w3).alloc (.cells #[.int .i64 1] 3)
  have h4 := h3.turns t4 (by simp)
  have bel4 := bel3.trans ((t4.below (Nat.le_refl _) (by simp)).mono bel3.size)
  have hl4 := Sl.new w3 #[.int .i64 1] 3 1 1 rfl (by simp [maxLen])
  have CR := Crash_any _ _ D3 3 kn2 _ _ [1] h4 (by intro x hx; rcases List.mem_singleton.1 hx with rfl; exact ⟨by decide, by decide +kernel⟩) (by decide) (hl4.more (by simp)) (by simp) (by
    intro _ x hx e
    have := h3.lt x hx
    simp [Value.ownBlock] at e
    omega)
  rw [eg] at CR
  have CR' := Lib.hid CR
  clear CR hl4 h3 bel3 t4
  go_wp2_with fail
  generalize w3.alloc (.cells #[.int .i64 1] 3) = w4 at *
  generalize w3.heap.size = q4 at *
  refine CR'.out.mono ?_
  rintro e w5 ⟨rfl, hd5⟩
  clear CR'
  have h5 := hd5.is
  have bel5 := bel4.trans (hd5.turns.below bel4.size h4.lowAll)
  clear hd5 h4 bel4
  have RD := Read_any _ _ _ 3 1 kn3 h5 (by omega) rfl
  have RD' := Lib.hid RD
  clear RD
  go_wp2_with fail
  refine RD'.out.mono ?_
  rintro e w6 ⟨v6, rfl, own6, bel6⟩
  obtain ⟨g6, c6, rfl, hn6, hc6, hb6, hg6, hcell'⟩ := own_cells own6 (by omega)
  have hcell := fun j u hu => (hcell' j u hu).1
  have x0 : w6.cell? ⟨g6, 0, none⟩ = some (.int .u8 7) := hcell 0 _ (by simp [bvs, kn3_page.1, u8v])
  have x40 : w6.cell? ⟨g6, 40, none⟩ = some (.int .u8 0) := hcell 40 _ (by simp [bvs, kn3_page.2, u8v])
  have bel := bel5.trans (bel6.mono bel5.size)
  clear hcell hcell' own6 RD' h5 bel5 bel6
  go_wp2_with fail
  go_ret
  exact ⟨rfl, bel⟩
end Go.Proofs.Ytemhlnjnbccpgaa
