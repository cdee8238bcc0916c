/- Rows are written: code's Bytes, the document's. -/
import Derived.Test.YtfehhiegnhplhaaWr
import Derived.Test.YtfehhiegnhplhaaVRow
import Derived.Test.YtfehhiegnhplhaaGrd
import Derived.Laws.ResultCell
namespace Go.Proofs.Ytfehhiegnhplhaa
open Go.RowKit
set_option linter.unusedVariables false
set_option maxRecDepth 10000
set_option linter.unusedSimpArgs false
set_option linter.unnecessarySimpa false

theorem cellV {L : List Nat} {a w : World} (h : Turns L a w) {p : Addr} {v : Value} (hc : a.cell? p = some v) (hp : p.block ∉ L := by simp) : w.cell? p = some v :=
  (World.cell?_of_block (h.block p.block (World.block_lt_of_cell? a p hc) hp)).trans hc
theorem rangeV {a w : World} (h : Turns [] a w) {b o : Nat} {cs : List Value} (hc : a.rangeAt b o cs) : w.rangeAt b o cs := fun j v hj => cellV h (hc j v hj)
theorem own_vL {L : List Nat} {w w' : World} {base : Nat} {e : TypeId} {size n : Nat} {v : Value} {xs : List Value} (h : w.ownsRow base e size v n xs) (t : Turns L w w') (hn : ∀ x ∈ L, v.ownBlock ≠ some x) : w'.ownsRow base e size v n xs := by
  obtain ⟨h1, h2⟩ := h
  refine ⟨h1, ?_⟩
  rcases h2 with h2 | ⟨g, cap, cur, hv, hg, hh, r⟩
  · exact Or.inl h2
  · refine Or.inr ⟨g, cap, cur, hv, hg, ?_, r⟩
    rw [t.block g (Array.getElem?_eq_some_iff.1 hh).1 (fun hm => hn g hm (by rw [hv]; rfl))]
    exact hh
theorem own_v0 {w w' : World} {base : Nat} {e : TypeId} {size n : Nat} {v : Value} {xs : List Value} (h : w.ownsRow base e size v n xs) (t : Turns [] w w') : w'.ownsRow base e size v n xs := own_vL h t (by simp)
theorem own_formV {w : World} {base : Nat} {e : TypeId} {size n : Nat} {v : Value} {xs : List Value} (h : w.ownsRow base e size v n xs) : ∃ A c, v = .slice A n c := by
  rcases h.2 with ⟨rfl, rfl⟩ | ⟨g, cap, cur, rfl, _⟩
  · exact ⟨_, _, rfl⟩
  · exact ⟨_, _, rfl⟩
theorem sl_vals {w : World} {B n c : Nat} {A : Option Addr} {l : List Val} (hs : Sl w B 3 (.slice A n c) n (valCells l)) : n = l.length ∧ l.length ≤ maxLen := by
  have hl := hs.1
  rw [valCells_length] at hl
  obtain ⟨_, _, _, ee, h1, h2, _⟩ := hs
  injection ee with _ _ e3
  subst e3
  exact ⟨by omega, by omega⟩
theorem val_range {w : World} {B n c : Nat} {A : Option Addr} {l : List Val} (hs : Sl w B 3 (.slice A n c) n (valCells l)) (k : Nat) (hk : k < l.length) :
    ∃ b off, A = some ⟨b, off, none⟩ ∧ w.rangeAt b (off + k * 3) l[k].cells := by
  obtain ⟨_, _, _, ee, _, _, _, hrd⟩ := hs
  injection ee with e1 _ e3
  subst e1
  obtain ⟨b, off, rfl, hb, hc⟩ := hrd (by intro e; have := congrArg List.length e; rw [valCells_length] at this; simp at this; omega)
  refine ⟨b, off, rfl, fun j v hj => ?_⟩
  have hj3 : j < 3 := by
    have := (List.getElem?_eq_some_iff.1 hj).1
    simpa [Val.cells] using this
  have := hc (k * 3 + j) v (by rw [valCells_get l k j hk hj3]; exact hj)
  rw [Nat.add_assoc]
  exact this
theorem size_val (kd nn : Int) (tx : ByteArray) : (Try.prog.info? 28).map (·.size) = some ([.int .i64 kd, .int .i64 nn, .string tx] : List Value).length := by kernel_rfl
theorem zero_val (w : World) : (zeroValue 28).run Try.prog w = .ok (.agg #[.int .i64 0, .int .i64 0, .string ⟨#[]⟩]) w := by kernel_rfl

set_option maxRecDepth 100000 in
set_option maxHeartbeats 4000000 in
theorem RowBytes_any (l : List Val) (A : Option Addr) (n c B : Nat) (w : World) (hf : ∀ x ∈ l, x.fits) (hs : Sl w B 3 (.slice A n c) n (valCells l)) (hB : B ≤ w.heap.size) (hl : l.length ≤ 1000) :
    Calls Try.prog 10 #[.slice A n c] w fun e w' => ∃ v', e = .returned v' ∧ Mine w w' v' (rowBytes l) := by
  obtain ⟨rfl, hm⟩ := sl_vals hs
  unfold maxLen at hm
  have C0 := Lib.hid (CByte (l.length : Nat) (Mine.nil (Turns.refl [] w)) (by simp))
  have SL := Lib.hid hs
  clear hs
  go_enter Try.func10, Try.ntmps10
  go_wp2_with fail
  refine C0.out.mono ?_
  rintro e w1 ⟨v1, rfl, m1, t1⟩
  rw [List.nil_append] at m1
  have m1 : Mine w w1 v1 (byte1 (l.length : Nat) :: valsBytes (l.take 0)) := m1
  clear C0 t1
  go_wp2_with fail
  go_loopw [3, 11] (fun v i wr => ∃ k : Nat, k ≤ l.length ∧ i = .int .i64 k ∧ Mine w wr v (byte1 (l.length : Nat) :: valsBytes (l.take k))) (fun _ i _ => l.length - (intOf i).toNat)
  case atStart => exact ⟨0, by omega, rfl, m1⟩
  case round =>
    clear m1
    obtain ⟨k, hk, rfl, m0⟩ := hrel
    have hml : (byte1 (l.length : Nat) :: valsBytes (l.take k)).length ≤ 900000000 := by
      have := valsBytes_len (l.take k)
      rw [List.length_take] at this
      rw [List.length_cons]; omega
    by_cases hlt : k < l.length
    · have hst := Lib.hid (show byte1 (l.length : Nat) :: valsBytes (l.take (k + 1)) = (byte1 (l.length : Nat) :: valsBytes (l.take k)) ++ [byte1 l[k].kind] ++ valTail l[k] by rw [valsBytes_step _ k hlt]; simp [valBytes])
      obtain ⟨b, off, rfl, rg⟩ := val_range SL.out k hlt
      have hr := rangeV m0.turns rg
      have hfx := hf _ (List.getElem_mem hlt)
      obtain ⟨⟨kd, nn, tx⟩, hcc⟩ : ∃ cc, cc = l[k] := ⟨_, rfl⟩
      rw [← hcc] at hr hst hfx
      have hki : (k : Int) < (l.length : Int) := by omega
      replace hr : wr.rangeAt b (off + k * 3) [.int .i64 kd, .int .i64 nn, .string tx] := hr
      have htx : tx.size ≤ maxLen := hfx.2.2
      have hsz := size_val kd nn tx
      generalize byte1 (l.length : Nat) :: valsBytes (l.take k) = bs at m0 hml hst
      obtain ⟨X1, hX1⟩ : ∃ X1, X1 = wr.alloc (.cells #[.int .i64 kd, .int .i64 nn, .string tx] 28) := ⟨_, rfl⟩
      have b1 := Blk.new wr [.int .i64 kd, .int .i64 nn, .string tx] 28
      rw [show wr.alloc (.cells [.int .i64 kd, .int .i64 nn, .string tx].toArray 28) = X1 from hX1.symm] at b1
      have m0 := m0.alloc (.cells #[.int .i64 kd, .int .i64 nn, .string tx] 28)
      rw [← hX1] at m0
      have q0 := b1.cell 0
      have q1 := b1.cell 1
      have q2 := b1.cell 2
      simp only [List.getElem?_cons_zero, List.getElem?_cons_succ] at q0 q1 q2
      have HX1 := Lib.hid hX1
      have B0 := Lib.hid (CByte kd m0 (by omega))
      clear hX1 b1 hcc rg hfx m0
      go_upto_region 5 with (first
        | (refine wpList_load_mid rfl 28 (.tmp 13) rfl b (off + k * 3) rfl _ _ hr Try.underlying28 rfl hsz ?_)
        | fail)
      rw [← HX1.out]
      go_wp2_with fail
      refine B0.out.mono ?_
      rintro e x2 ⟨v2, rfl, m2, tt⟩
      have q0 := cellV tt q0
      have q1 := cellV tt q1
      have q2 := cellV tt q2
      clear tt B0 hr
      by_cases h1 : kd = 1
      · subst h1
        have W1 := Lib.hid (CByte nn m2 (by rw [List.length_append]; simp only [List.length_cons, List.length_nil]; omega))
        clear m2
        go_wp2_with fail
        refine W1.out.mono ?_
        rintro e x3 ⟨v3, rfl, m3, -⟩
        clear W1
        go_wp2_with fail
        go_roundw
        case rel => exact ⟨k + 1, by omega, by go_num, by rw [hst.out]; exact m3⟩
        case measure => (simp [intOf] <;> omega)
      by_cases h2 : kd = 2
      · subst h2
        have W1 := Lib.hid (CInt nn m2 (by rw [List.length_append]; simp only [List.length_cons, List.length_nil]; omega))
        clear m2
        go_wp2_with fail
        refine W1.out.mono ?_
        rintro e x3 ⟨v3, rfl, m3, -⟩
        clear W1
        go_wp2_with fail
        go_roundw
        case rel => exact ⟨k + 1, by omega, by go_num, by rw [hst.out]; exact m3⟩
        case measure => (simp [intOf] <;> omega)
      by_cases h3 : kd = 3
      · subst h3
        have W1 := Lib.hid (CText tx m2 (by rw [List.length_append]; simp only [List.length_cons, List.length_nil]; omega) htx)
        clear m2
        go_wp2_with fail
        refine W1.out.mono ?_
        rintro e x3 ⟨v3, rfl, m3, -⟩
        clear W1
        go_wp2_with fail
        go_roundw
        case rel => exact ⟨k + 1, by omega, by go_num, by rw [hst.out]; exact m3⟩
        case measure => (simp [intOf] <;> omega)
      have e1 : (kd == 1) = false := by simpa using h1
      have e2 : (kd == 2) = false := by simpa using h2
      have e3 : (kd == 3) = false := by simpa using h3
      have hv := Lib.hid (show valTail ⟨kd, nn, tx⟩ = [] by unfold valTail; simp [h1, h2, h3])
      go_wp2_with fail
      go_roundw
      case rel => exact ⟨k + 1, by omega, by go_num, by rw [hst.out, hv.out, List.append_nil]; exact m2⟩
      case measure => (simp [intOf] <;> omega)
    · obtain rfl : k = l.length := by omega
      rw [List.take_length] at m0
      go_wp2_with fail
      go_ret
      exact ⟨_, rfl, m0⟩

set_option maxRecDepth 100000 in
set_option maxHeartbeats 4000000 in
theorem refRowBytes_any (l : List Val) (A : Option Addr) (n c B : Nat) (w : World) (hf : ∀ x ∈ l, x.fits) (hs : Sl w B 3 (.slice A n c) n (valCells l)) (hB : B ≤ w.heap.size) (hl : l.length ≤ 1000) :
    Calls Try.prog 13 #[.slice A n c] w fun e w' => ∃ v', e = .returned v' ∧ Mine w w' v' (rowBytes l) := by
  obtain ⟨rfl, hm⟩ := sl_vals hs
  unfold maxLen at hm
  have C0 := Lib.hid (RByte (l.length : Nat) (Mine.nil (Turns.refl [] w)) (by simp))
  have SL := Lib.hid hs
  clear hs
  go_enter Try.func13, Try.ntmps13
  go_wp2_with fail
  refine C0.out.mono ?_
  rintro e w1 ⟨v1, rfl, m1⟩
  rw [List.nil_append] at m1
  have m1 : Mine w w1 v1 (byte1 (l.length : Nat) :: valsBytes (l.take 0)) := m1
  clear C0
  go_wp2_with fail
  go_loopw [3, 4] (fun v i wr => ∃ k : Nat, k ≤ l.length ∧ i = .int .i64 k ∧ Mine w wr v (byte1 (l.length : Nat) :: valsBytes (l.take k))) (fun _ i _ => l.length - (intOf i).toNat)
  case atStart => exact ⟨0, by omega, rfl, m1⟩
  case round =>
    clear m1
    obtain ⟨k, hk, rfl, m0⟩ := hrel
    have hml : (byte1 (l.length : Nat) :: valsBytes (l.take k)).length ≤ 900000000 := by
      have := valsBytes_len (l.take k)
      rw [List.length_take] at this
      rw [List.length_cons]; omega
    by_cases hlt : k < l.length
    · have hst := Lib.hid (show byte1 (l.length : Nat) :: valsBytes (l.take (k + 1)) = (byte1 (l.length : Nat) :: valsBytes (l.take k)) ++ [byte1 l[k].kind] ++ valTail l[k] by rw [valsBytes_step _ k hlt]; simp [valBytes])
      obtain ⟨b, off, rfl, rg⟩ := val_range SL.out k hlt
      have hfx := hf _ (List.getElem_mem hlt)
      obtain ⟨⟨kd, nn, tx⟩, hcc⟩ : ∃ cc, cc = l[k] := ⟨_, rfl⟩
      rw [← hcc] at rg hst hfx
      have hki : (k : Int) < (l.length : Int) := by omega
      have htx : tx.size ≤ maxLen := hfx.2.2
      generalize byte1 (l.length : Nat) :: valsBytes (l.take k) = bs at m0 hml hst
      have r0 : w.cell? ⟨b, off + k * 3, none⟩ = some (.int .i64 kd) := rg 0 _ rfl
      have r1 : w.cell? ⟨b, off + k * 3 + 1, none⟩ = some (.int .i64 nn) := rg 1 _ rfl
      have r2 : w.cell? ⟨b, off + k * 3 + 2, none⟩ = some (.string tx) := rg 2 _ rfl
      have R := Lib.hid (And.intro r0 (And.intro r1 r2))
      have q0 := cellV m0.turns r0
      have B0 := Lib.hid (RByte kd m0 (by omega))
      clear hcc rg hfx m0 r0 r1 r2
      go_wp2_with fail
      refine B0.out.mono ?_
      rintro e x2 ⟨v2, rfl, m2⟩
      have q0 := cellV m2.turns R.out.1
      have q1 := cellV m2.turns R.out.2.1
      have q2 := cellV m2.turns R.out.2.2
      clear B0
      by_cases h1 : kd = 1
      · subst h1
        have W1 := Lib.hid (RByte nn m2 (by rw [List.length_append]; simp only [List.length_cons, List.length_nil]; omega))
        clear m2
        go_wp2_with fail
        refine W1.out.mono ?_
        rintro e x3 ⟨v3, rfl, m3⟩
        clear W1
        go_wp2_with fail
        go_roundw
        case rel => exact ⟨k + 1, by omega, by go_num, by rw [hst.out]; exact m3⟩
        case measure => (simp [intOf] <;> omega)
      by_cases h2 : kd = 2
      · subst h2
        have W1 := Lib.hid (RInt nn m2 (by rw [List.length_append]; simp only [List.length_cons, List.length_nil]; omega))
        clear m2
        go_wp2_with fail
        refine W1.out.mono ?_
        rintro e x3 ⟨v3, rfl, m3⟩
        clear W1
        go_wp2_with fail
        go_roundw
        case rel => exact ⟨k + 1, by omega, by go_num, by rw [hst.out]; exact m3⟩
        case measure => (simp [intOf] <;> omega)
      by_cases h3 : kd = 3
      · subst h3
        have W1 := Lib.hid (RText tx m2 (by rw [List.length_append]; simp only [List.length_cons, List.length_nil]; omega) htx)
        clear m2
        go_wp2_with fail
        refine W1.out.mono ?_
        rintro e x3 ⟨v3, rfl, m3⟩
        clear W1
        go_wp2_with fail
        go_roundw
        case rel => exact ⟨k + 1, by omega, by go_num, by rw [hst.out]; exact m3⟩
        case measure => (simp [intOf] <;> omega)
      have e1 : (kd == 1) = false := by simpa using h1
      have e2 : (kd == 2) = false := by simpa using h2
      have e3 : (kd == 3) = false := by simpa using h3
      have hv := Lib.hid (show valTail ⟨kd, nn, tx⟩ = [] by unfold valTail; simp [h1, h2, h3])
      go_wp2_with fail
      go_roundw
      case rel => exact ⟨k + 1, by omega, by go_num, by rw [hst.out, hv.out, List.append_nil]; exact m2⟩
      case measure => (simp [intOf] <;> omega)
    · obtain rfl : k = l.length := by omega
      rw [List.take_length] at m0
      go_wp2_with fail
      go_ret
      exact ⟨_, rfl, m0⟩
end Go.Proofs.Ytfehhiegnhplhaa
