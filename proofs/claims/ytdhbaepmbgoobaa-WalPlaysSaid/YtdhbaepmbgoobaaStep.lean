/- The disk's power: an operation is counted. -/
import Derived.Test.YtdhbaepmbgoobaaPower
import Derived.Test.YtdhbaepmbgoobaaTurns
namespace Go.Proofs.Ytdhbaepmbgoobaa
open Go.RowKit
set_option linter.unusedVariables false
set_option maxRecDepth 10000
set_option linter.unusedSimpArgs false
set_option linter.unnecessarySimpa false

set_option maxHeartbeats 1000000 in
theorem step_any (g : Nat) (L : Int) (d : Bool) (rest : List Value) (w : World) (h : Blk w g (.int .i64 L :: .int .u32 (dflag d) :: rest) 66) (h0 : 0 ≤ L) (hm : L ≤ 9223372036854775807) :
    Calls Try.prog 39 #[.pointer (some ⟨g, 0, none⟩)] w fun e w' => e = .returned (.bool (decide (L = 1))) ∧
      Blk w' g (.int .i64 (if 0 < L then L - 1 else L) :: .int .u32 (dflag (d || decide (L = 1))) :: rest) 66 ∧ Turns [g] w w' := by
  have c0 : w.cell? ⟨g, 0, none⟩ = some (.int .i64 L) := h.cell 0
  have f0 := h.free 0
  have IL := Lib.hid (IntLoad_any ⟨g, 0, none⟩ L w c0)
  by_cases hz : L = 0
  · subst hz
    go_enter Try.func39, Try.ntmps39
    go_wp2_with fail
    refine IL.out.mono ?_
    rintro e' ww ⟨rfl, rfl⟩
    go_wp2_with fail
    go_ret
    exact ⟨rfl, by first | assumption | (simp; assumption), Turns.refl _ _⟩
  have hp : 0 < L := by omega
  have IA := Lib.hid (IntAdd_any ⟨g, 0, none⟩ L w c0 f0 hp hm)
  rw [if_pos hp]
  by_cases h1 : L = 1
  · subst h1
    have b1 := h.set 0 (.int .i64 0)
    have BS := Lib.hid (BoolStore_any ⟨g, 1, none⟩ (.int .u32 (dflag d)) true (w.setCell ⟨g, 0, none⟩ (.int .i64 0)) (b1.cell 1) (b1.free 1))
    have fin : Blk ((w.setCell ⟨g, 0, none⟩ (.int .i64 0)).drew.setCell ⟨g, 1, none⟩ (.int .u32 1)) g _ _ := Blk.set (Blk.drew b1) 1 (.int .u32 1)
    have tfin : Turns [g] w ((w.setCell ⟨g, 0, none⟩ (.int .i64 0)).drew.setCell ⟨g, 1, none⟩ (.int .u32 1)) := (((Turns.refl [g] w).setCell (p := ⟨g, 0, none⟩) (.inl (by simp)) _).drew).setCell (p := ⟨g, 1, none⟩) (.inl (by simp)) _
    have hf : dflag (d || decide ((1 : Int) = 1)) = 1 := by simp [dflag]
    rw [hf]
    clear b1 h c0 f0 h0 hm hz hp
    go_enter Try.func39, Try.ntmps39
    go_wp2_with fail
    refine IL.out.mono ?_
    rintro e' ww ⟨rfl, rfl⟩
    go_wp2_with fail
    refine IA.out.mono ?_
    rintro e' w1 ⟨rfl, rfl⟩
    go_wp2_with fail
    refine BS.out.mono ?_
    rintro e' w2 ⟨rfl, rfl⟩
    go_wp2_with fail
    go_ret
    exact ⟨rfl, fin, tfin⟩
  · have b1 := h.set 0 (.int .i64 (L - 1))
    have t1 := (Turns.refl [g] w).setCell (p := ⟨g, 0, none⟩) (.inl (by simp)) (.int .i64 (L - 1))
    have hd : (d || decide (L = 1)) = d := by simp [h1]
    have hd2 : decide (L = 1) = false := by simp [h1]
    have hne : ¬ L - 1 = 0 := by omega
    rw [hd, hd2]
    clear h c0 f0 h0 hm hz hd hd2
    go_enter Try.func39, Try.ntmps39
    go_wp2_with fail
    refine IL.out.mono ?_
    rintro e' ww ⟨rfl, rfl⟩
    go_wp2_with fail
    refine IA.out.mono ?_
    rintro e' w1 ⟨rfl, rfl⟩
    go_wp2_with fail
    go_ret
    exact ⟨rfl, b1, t1⟩

theorem Stop_any (g : Nat) (L n : Int) (rest : List Value) (w : World) (h : Blk w g (.int .i64 L :: rest) 66) :
    Calls Try.prog 22 #[.pointer (some ⟨g, 0, none⟩), .int .i64 n] w fun e w' => e = .returned (.tuple #[]) ∧
      Blk w' g (.int .i64 (max n 0) :: rest) 66 ∧ Turns [g] w w' := by
  have c0 : w.cell? ⟨g, 0, none⟩ = some (.int .i64 L) := h.cell 0
  have f0 := h.free 0
  have IS := Lib.hid (fun m => IntStore_any ⟨g, 0, none⟩ _ m w c0 f0)
  have fin := fun m => h.set 0 (.int .i64 m)
  have tfin := fun m => (Turns.refl [g] w).setCell (p := ⟨g, 0, none⟩) (.inl (by simp)) (.int .i64 m)
  clear c0 f0 h
  by_cases hn : n < 0
  · have e : max n 0 = 0 := by omega
    rw [e]
    clear e
    go_enter Try.func22, Try.ntmps22
    go_wp2_with fail
    refine (IS.out 0).mono ?_
    rintro e' w1 ⟨rfl, rfl⟩
    go_wp2_with fail
    go_end0
    exact ⟨rfl, fin 0, tfin 0⟩
  · have e : max n 0 = n := by omega
    rw [e]
    clear e
    go_enter Try.func22, Try.ntmps22
    go_wp2_with fail
    refine (IS.out n).mono ?_
    rintro e' w1 ⟨rfl, rfl⟩
    go_wp2_with fail
    go_end0
    exact ⟨rfl, fin n, tfin n⟩
end Go.Proofs.Ytdhbaepmbgoobaa
