/- Values and rows, in plain lists: bytes, what is wrong with them, how they are read. Rows: what was written is read as it was; what is read is written as it stood. Rows are written: code's Bytes, the document's. Values, and rows of values, that came in. Values made good, in plain words. -/
import Derived.Test.YtoahnhphfabajaaGreatGB
import Derived.Test.YtoahnhphfabajaaGreatGA
import Derived.Laws.ResultCell
namespace Go.Proofs.YtoahnhphfabajaaGreat
set_option maxRecDepth 10000
open Go.RowKit
set_option linter.unusedVariables false
set_option maxRecDepth 10000
set_option linter.unusedSimpArgs false

/-- A value. -/
structure Val where
  kind : Int
  n : Int
  s : ByteArray
def noV : Val := ⟨0, 0, ⟨#[]⟩⟩
def Val.cells (v : Val) : List Value := [.int .i64 v.kind, .int .i64 v.n, .string v.s]
def valCells (l : List Val) : List Value := l.flatMap Val.cells
theorem valCells_length (l : List Val) : (valCells l).length = l.length * 3 := by
  induction l with
  | nil => rfl
  | cons c l ih => simp [valCells, Val.cells] at *; omega
theorem valCells_app (a b : List Val) : valCells (a ++ b) = valCells a ++ valCells b := by simp [valCells]
theorem valCells_one (l : List Val) : ∀ u ∈ valCells l, u.oneCell' = true := by
  intro u hu
  simp only [valCells, List.mem_flatMap] at hu
  obtain ⟨c, _, hc⟩ := hu
  simp only [Val.cells, List.mem_cons, List.not_mem_nil, or_false] at hc
  rcases hc with rfl | rfl | rfl <;> rfl
theorem valCells_get (l : List Val) (k j : Nat) (hk : k < l.length) (hj : j < 3) : (valCells l)[k * 3 + j]? = (l[k].cells)[j]? := by
  induction l generalizing k with
  | nil => simp at hk
  | cons c l ih =>
    rw [valCells, List.flatMap_cons]
    cases k with
    | zero => rw [Nat.zero_mul, Nat.zero_add, List.getElem?_append_left (by simpa [Val.cells] using hj)]; rfl
    | succ k =>
      rw [List.getElem?_append_right (by simp [Val.cells]; omega), show (k + 1) * 3 + j - c.cells.length = k * 3 + j by simp [Val.cells]; omega]
      exact ih k (by simpa using hk)

/-- What a Go program's memory can hold. -/
def Val.fits (v : Val) : Prop := (-9223372036854775808 ≤ v.kind ∧ v.kind ≤ 9223372036854775807) ∧ (-9223372036854775808 ≤ v.n ∧ v.n ≤ 9223372036854775807) ∧ v.s.size ≤ maxLen

/-- Bytes of a value, of a row. -/
def valTail (v : Val) : List UInt8 := if v.kind = 1 then [byte1 v.n] else if v.kind = 2 then le8 v.n else if v.kind = 3 then textBytes v.s.data.toList else []
def valBytes (v : Val) : List UInt8 := byte1 v.kind :: valTail v
def valsBytes (l : List Val) : List UInt8 := l.flatMap valBytes
def rowBytes (l : List Val) : List UInt8 := byte1 (l.length : Nat) :: valsBytes l
theorem valsBytes_step (l : List Val) (k : Nat) (hk : k < l.length) : valsBytes (l.take (k + 1)) = valsBytes (l.take k) ++ valBytes l[k] := by
  unfold valsBytes
  rw [List.take_succ_eq_append_getElem hk, List.flatMap_append]; simp
theorem valTail_len (v : Val) : (valTail v).length ≤ 65537 := by
  unfold valTail
  split
  · simp
  · split
    · rw [le8_length]; omega
    · split
      · rw [textBytes_length]; omega
      · simp
theorem valBytes_len (v : Val) : (valBytes v).length ≤ 65538 := by
  have := valTail_len v
  unfold valBytes
  rw [List.length_cons]; omega
theorem valsBytes_len (l : List Val) : (valsBytes l).length ≤ l.length * 65538 := by
  induction l with
  | nil => simp [valsBytes]
  | cons c l ih =>
    have := valBytes_len c
    unfold valsBytes at *
    rw [List.flatMap_cons, List.length_append, List.length_cons]
    omega
theorem rowBytes_len (l : List Val) : (rowBytes l).length ≤ l.length * 65538 + 1 := by
  have := valsBytes_len l
  unfold rowBytes
  rw [List.length_cons]; omega

theorem none_fits : (⟨#[]⟩ : ByteArray).size ≤ maxLen := by show (0 : Nat) ≤ maxLen; omega
end Go.Proofs.YtoahnhphfabajaaGreat
namespace Go.Proofs.YtoahnhphfabajaaGreat
set_option maxRecDepth 10000
open Go.RowKit
set_option linter.unusedVariables false
set_option linter.unusedSimpArgs false

theorem strOf_data (t : ByteArray) : strOf t.data.toList = t := by
  cases t; rfl
end Go.Proofs.YtoahnhphfabajaaGreat
namespace Go.Proofs.YtoahnhphfabajaaGreat
set_option maxRecDepth 10000
open Go.RowKit
set_option linter.unusedVariables false
set_option linter.unusedSimpArgs false
set_option linter.unnecessarySimpa false

theorem cellV {L : List Nat} {a w : World} (h : Turns L a w) {p : Addr} {v : Value} (hc : a.cell? p = some v) (hp : p.block ∉ L := by simp) : w.cell? p = some v :=
  (World.cell?_of_block (h.block p.block (World.block_lt_of_cell? a p hc) hp)).trans hc
theorem rangeV {a w : World} (h : Turns [] a w) {b o : Nat} {cs : List Value} (hc : a.rangeAt b o cs) : w.rangeAt b o cs := fun j v hj => cellV h (hc j v hj)
theorem own_vL {L : List Nat} {w w' : World} {base : Nat} {e : TypeId} {size n : Nat} {v : Value} {xs : List Value} (h : w.ownsRow base e size v n xs) (t : Turns L w w') (hn : ∀ x ∈ L, v.ownBlock ≠ some x) : w'.ownsRow base e size v n xs := by
  obtain ⟨h1, h2⟩ := h
  refine ⟨h1, ?_⟩
  rcases h2 with h2 | ⟨g, cap, cur, hv, hg, hh, r⟩
  · exact Or.inl h2
  · refine Or.inr ⟨g, cap, cur, hv, hg, ?_, r⟩
    rw [t.block g (Array.getElem?_eq_some_iff.1 hh).1 (fun hm => hn g hm (by rw [hv]; rfl))]
    exact hh
theorem own_v0 {w w' : World} {base : Nat} {e : TypeId} {size n : Nat} {v : Value} {xs : List Value} (h : w.ownsRow base e size v n xs) (t : Turns [] w w') : w'.ownsRow base e size v n xs := own_vL h t (by simp)
theorem own_formV {w : World} {base : Nat} {e : TypeId} {size n : Nat} {v : Value} {xs : List Value} (h : w.ownsRow base e size v n xs) : ∃ A c, v = .slice A n c := by
  rcases h.2 with ⟨rfl, rfl⟩ | ⟨g, cap, cur, rfl, _⟩
  · exact ⟨_, _, rfl⟩
  · exact ⟨_, _, rfl⟩
theorem sl_vals {w : World} {B n c : Nat} {A : Option Addr} {l : List Val} (hs : Sl w B 3 (.slice A n c) n (valCells l)) : n = l.length ∧ l.length ≤ maxLen := by
  have hl := hs.1
  rw [valCells_length] at hl
  obtain ⟨_, _, _, ee, h1, h2, _⟩ := hs
  injection ee with _ _ e3
  subst e3
  exact ⟨by omega, by omega⟩
theorem val_range {w : World} {B n c : Nat} {A : Option Addr} {l : List Val} (hs : Sl w B 3 (.slice A n c) n (valCells l)) (k : Nat) (hk : k < l.length) :
    ∃ b off, A = some ⟨b, off, none⟩ ∧ w.rangeAt b (off + k * 3) l[k].cells := by
  obtain ⟨_, _, _, ee, _, _, _, hrd⟩ := hs
  injection ee with e1 _ e3
  subst e1
  obtain ⟨b, off, rfl, hb, hc⟩ := hrd (by intro e; have := congrArg List.length e; rw [valCells_length] at this; simp at this; omega)
  refine ⟨b, off, rfl, fun j v hj => ?_⟩
  have hj3 : j < 3 := by
    have := (List.getElem?_eq_some_iff.1 hj).1
    simpa [Val.cells] using this
  have := hc (k * 3 + j) v (by rw [valCells_get l k j hk hj3]; exact hj)
  rw [Nat.add_assoc]
  exact this
theorem size_val (kd nn : Int) (tx : ByteArray) : (Tryz.prog.info? 109).map (·.size) = some ([.int .i64 kd, .int .i64 nn, .string tx] : List Value).length := by kernel_rfl
theorem zero_val (w : World) : (zeroValue 109).run Tryz.prog w = .ok (.agg #[.int .i64 0, .int .i64 0, .string ⟨#[]⟩]) w := by kernel_rfl

set_option maxRecDepth 100000 in
set_option maxHeartbeats 4000000 in
theorem RowBytes_any (l : List Val) (A : Option Addr) (n c B : Nat) (w : World) (hf : ∀ x ∈ l, x.fits) (hs : Sl w B 3 (.slice A n c) n (valCells l)) (hB : B ≤ w.heap.size) (hl : l.length ≤ 1000) :
    Calls Tryz.prog 75 #[.slice A n c] w fun e w' => ∃ v', e = .returned v' ∧ Mine w w' v' (rowBytes l) := by
  obtain ⟨rfl, hm⟩ := sl_vals hs
  unfold maxLen at hm
  have C0 := Lib.hid (CByte (l.length : Nat) (Mine.nil (Turns.refl [] w)) (by simp))
  have SL := Lib.hid hs
  clear hs
  go_enter Tryz.func75, Tryz.ntmps75
  go_wp2_with fail
  refine C0.out.mono ?_
  rintro e w1 ⟨v1, rfl, m1, t1⟩
  rw [List.nil_append] at m1
  have m1 : Mine w w1 v1 (byte1 (l.length : Nat) :: valsBytes (l.take 0)) := m1
  clear C0 t1
  go_wp2_with fail
  go_loopw [3, 11] (fun v i wr => ∃ k : Nat, k ≤ l.length ∧ i = .int .i64 k ∧ Mine w wr v (byte1 (l.length : Nat) :: valsBytes (l.take k))) (fun _ i _ => l.length - (intOf i).toNat)
  case atStart => exact ⟨0, by omega, rfl, m1⟩
  case round =>
    clear m1
    obtain ⟨k, hk, rfl, m0⟩ := hrel
    have hml : (byte1 (l.length : Nat) :: valsBytes (l.take k)).length ≤ 900000000 := by
      have := valsBytes_len (l.take k)
      rw [List.length_take] at this
      rw [List.length_cons]; omega
    by_cases hlt : k < l.length
    · have hst := Lib.hid (show byte1 (l.length : Nat) :: valsBytes (l.take (k + 1)) = (byte1 (l.length : Nat) :: valsBytes (l.take k)) ++ [byte1 l[k].kind] ++ valTail l[k] by rw [valsBytes_step _ k hlt]; simp [valBytes])
      obtain ⟨b, off, rfl, rg⟩ := val_range SL.out k hlt
      have hr := rangeV m0.turns rg
      have hfx := hf _ (List.getElem_mem hlt)
      obtain ⟨⟨kd, nn, tx⟩, hcc⟩ : ∃ cc, cc = l[k] := ⟨_, rfl⟩
      rw [← hcc] at hr hst hfx
      have hki : (k : Int) < (l.length : Int) := by omega
      replace hr : wr.rangeAt b (off + k * 3) [.int .i64 kd, .int .i64 nn, .string tx] := hr
      have htx : tx.size ≤ maxLen := hfx.2.2
      have hsz := size_val kd nn tx
      generalize byte1 (l.length : Nat) :: valsBytes (l.take k) = bs at m0 hml hst
      obtain ⟨X1, hX1⟩ : ∃ X1, X1 = wr.alloc (.cells #[.int .i64 kd, .int .i64 nn, .string tx] 109) := ⟨_, rfl⟩
      have b1 := Blk.new wr [.int .i64 kd, .int .i64 nn, .string tx] 109
      rw [show wr.alloc (.cells [.int .i64 kd, .int .i64 nn, .string tx].toArray 109) = X1 from hX1.symm] at b1
      have m0 := m0.alloc (.cells #[.int .i64 kd, .int .i64 nn, .string tx] 109)
      rw [← hX1] at m0
      have q0 := b1.cell 0
      have q1 := b1.cell 1
      have q2 := b1.cell 2
      simp only [List.getElem?_cons_zero, List.getElem?_cons_succ] at q0 q1 q2
      have HX1 := Lib.hid hX1
      have B0 := Lib.hid (CByte kd m0 (by omega))
      clear hX1 b1 hcc rg hfx m0
      go_upto_region 5 with (first
        | (refine wpList_load_mid rfl 109 (.tmp 13) rfl b (off + k * 3) rfl _ _ hr Tryz.underlying109 rfl hsz ?_)
        | fail)
      rw [← HX1.out]
      go_wp2_with fail
      refine B0.out.mono ?_
      rintro e x2 ⟨v2, rfl, m2, tt⟩
      have q0 := cellV tt q0
      have q1 := cellV tt q1
      have q2 := cellV tt q2
      clear tt B0 hr
      by_cases h1 : kd = 1
      · subst h1
        have W1 := Lib.hid (CByte nn m2 (by rw [List.length_append]; simp only [List.length_cons, List.length_nil]; omega))
        clear m2
        go_wp2_with fail
        refine W1.out.mono ?_
        rintro e x3 ⟨v3, rfl, m3, -⟩
        clear W1
        go_wp2_with fail
        go_roundw
        case rel => exact ⟨k + 1, by omega, by go_num, by rw [hst.out]; exact m3⟩
        case measure => (simp [intOf] <;> omega)
      by_cases h2 : kd = 2
      · subst h2
        have W1 := Lib.hid (CInt nn m2 (by rw [List.length_append]; simp only [List.length_cons, List.length_nil]; omega))
        clear m2
        go_wp2_with fail
        refine W1.out.mono ?_
        rintro e x3 ⟨v3, rfl, m3, -⟩
        clear W1
        go_wp2_with fail
        go_roundw
        case rel => exact ⟨k + 1, by omega, by go_num, by rw [hst.out]; exact m3⟩
        case measure => (simp [intOf] <;> omega)
      by_cases h3 : kd = 3
      · subst h3
        have W1 := Lib.hid (CText tx m2 (by rw [List.length_append]; simp only [List.length_cons, List.length_nil]; omega) htx)
        clear m2
        go_wp2_with fail
        refine W1.out.mono ?_
        rintro e x3 ⟨v3, rfl, m3, -⟩
        clear W1
        go_wp2_with fail
        go_roundw
        case rel => exact ⟨k + 1, by omega, by go_num, by rw [hst.out]; exact m3⟩
        case measure => (simp [intOf] <;> omega)
      have e1 : (kd == 1) = false := by simpa using h1
      have e2 : (kd == 2) = false := by simpa using h2
      have e3 : (kd == 3) = false := by simpa using h3
      have hv := Lib.hid (show valTail ⟨kd, nn, tx⟩ = [] by unfold valTail; simp [h1, h2, h3])
      go_wp2_with fail
      go_roundw
      case rel => exact ⟨k + 1, by omega, by go_num, by rw [hst.out, hv.out, List.append_nil]; exact m2⟩
      case measure => (simp [intOf] <;> omega)
    · obtain rfl : k = l.length := by omega
      rw [List.take_length] at m0
      go_wp2_with fail
      go_ret
      exact ⟨_, rfl, m0⟩

set_option maxRecDepth 100000 in
set_option maxHeartbeats 4000000 in
theorem refRowBytes_any (l : List Val) (A : Option Addr) (n c B : Nat) (w : World) (hf : ∀ x ∈ l, x.fits) (hs : Sl w B 3 (.slice A n c) n (valCells l)) (hB : B ≤ w.heap.size) (hl : l.length ≤ 1000) :
    Calls Tryz.prog 114 #[.slice A n c] w fun e w' => ∃ v', e = .returned v' ∧ Mine w w' v' (rowBytes l) := by
  obtain ⟨rfl, hm⟩ := sl_vals hs
  unfold maxLen at hm
  have C0 := Lib.hid (RByte (l.length : Nat) (Mine.nil (Turns.refl [] w)) (by simp))
  have SL := Lib.hid hs
  clear hs
  go_enter Tryz.func114, Tryz.ntmps114
  go_wp2_with fail
  refine C0.out.mono ?_
  rintro e w1 ⟨v1, rfl, m1⟩
  rw [List.nil_append] at m1
  have m1 : Mine w w1 v1 (byte1 (l.length : Nat) :: valsBytes (l.take 0)) := m1
  clear C0
  go_wp2_with fail
  go_loopw [3, 4] (fun v i wr => ∃ k : Nat, k ≤ l.length ∧ i = .int .i64 k ∧ Mine w wr v (byte1 (l.length : Nat) :: valsBytes (l.take k))) (fun _ i _ => l.length - (intOf i).toNat)
  case atStart => exact ⟨0, by omega, rfl, m1⟩
  case round =>
    clear m1
    obtain ⟨k, hk, rfl, m0⟩ := hrel
    have hml : (byte1 (l.length : Nat) :: valsBytes (l.take k)).length ≤ 900000000 := by
      have := valsBytes_len (l.take k)
      rw [List.length_take] at this
      rw [List.length_cons]; omega
    by_cases hlt : k < l.length
    · have hst := Lib.hid (show byte1 (l.length : Nat) :: valsBytes (l.take (k + 1)) = (byte1 (l.length : Nat) :: valsBytes (l.take k)) ++ [byte1 l[k].kind] ++ valTail l[k] by rw [valsBytes_step _ k hlt]; simp [valBytes])
      obtain ⟨b, off, rfl, rg⟩ := val_range SL.out k hlt
      have hfx := hf _ (List.getElem_mem hlt)
      obtain ⟨⟨kd, nn, tx⟩, hcc⟩ : ∃ cc, cc = l[k] := ⟨_, rfl⟩
      rw [← hcc] at rg hst hfx
      have hki : (k : Int) < (l.length : Int) := by omega
      have htx : tx.size ≤ maxLen := hfx.2.2
      generalize byte1 (l.length : Nat) :: valsBytes (l.take k) = bs at m0 hml hst
      have r0 : w.cell? ⟨b, off + k * 3, none⟩ = some (.int .i64 kd) := rg 0 _ rfl
      have r1 : w.cell? ⟨b, off + k * 3 + 1, none⟩ = some (.int .i64 nn) := rg 1 _ rfl
      have r2 : w.cell? ⟨b, off + k * 3 + 2, none⟩ = some (.string tx) := rg 2 _ rfl
      have R := Lib.hid (And.intro r0 (And.intro r1 r2))
      have q0 := cellV m0.turns r0
      have B0 := Lib.hid (RByte kd m0 (by omega))
      clear hcc rg hfx m0 r0 r1 r2
      go_wp2_with fail
      refine B0.out.mono ?_
      rintro e x2 ⟨v2, rfl, m2⟩
      have q0 := cellV m2.turns R.out.1
      have q1 := cellV m2.turns R.out.2.1
      have q2 := cellV m2.turns R.out.2.2
      clear B0
      by_cases h1 : kd = 1
      · subst h1
        have W1 := Lib.hid (RByte nn m2 (by rw [List.length_append]; simp only [List.length_cons, List.length_nil]; omega))
        clear m2
        go_wp2_with fail
        refine W1.out.mono ?_
        rintro e x3 ⟨v3, rfl, m3⟩
        clear W1
        go_wp2_with fail
        go_roundw
        case rel => exact ⟨k + 1, by omega, by go_num, by rw [hst.out]; exact m3⟩
        case measure => (simp [intOf] <;> omega)
      by_cases h2 : kd = 2
      · subst h2
        have W1 := Lib.hid (RInt nn m2 (by rw [List.length_append]; simp only [List.length_cons, List.length_nil]; omega))
        clear m2
        go_wp2_with fail
        refine W1.out.mono ?_
        rintro e x3 ⟨v3, rfl, m3⟩
        clear W1
        go_wp2_with fail
        go_roundw
        case rel => exact ⟨k + 1, by omega, by go_num, by rw [hst.out]; exact m3⟩
        case measure => (simp [intOf] <;> omega)
      by_cases h3 : kd = 3
      · subst h3
        have W1 := Lib.hid (RText tx m2 (by rw [List.length_append]; simp only [List.length_cons, List.length_nil]; omega) htx)
        clear m2
        go_wp2_with fail
        refine W1.out.mono ?_
        rintro e x3 ⟨v3, rfl, m3⟩
        clear W1
        go_wp2_with fail
        go_roundw
        case rel => exact ⟨k + 1, by omega, by go_num, by rw [hst.out]; exact m3⟩
        case measure => (simp [intOf] <;> omega)
      have e1 : (kd == 1) = false := by simpa using h1
      have e2 : (kd == 2) = false := by simpa using h2
      have e3 : (kd == 3) = false := by simpa using h3
      have hv := Lib.hid (show valTail ⟨kd, nn, tx⟩ = [] by unfold valTail; simp [h1, h2, h3])
      go_wp2_with fail
      go_roundw
      case rel => exact ⟨k + 1, by omega, by go_num, by rw [hst.out, hv.out, List.append_nil]; exact m2⟩
      case measure => (simp [intOf] <;> omega)
    · obtain rfl : k = l.length := by omega
      rw [List.take_length] at m0
      go_wp2_with fail
      go_ret
      exact ⟨_, rfl, m0⟩
end Go.Proofs.YtoahnhphfabajaaGreat
namespace Go.Proofs.YtoahnhphfabajaaGreat
set_option maxRecDepth 10000
open Go.RowKit Go.WideShapes
set_option linter.unusedVariables false
set_option linter.unusedSimpArgs false
set_option linter.unnecessarySimpa false

section
variable {H : Type} {enc : TypeId × Value → H} {w : World}
end
end Go.Proofs.YtoahnhphfabajaaGreat
namespace Go.Proofs.YtoahnhphfabajaaGreat
set_option maxRecDepth 10000
open Go.RowKit
set_option linter.unusedVariables false
set_option linter.unusedSimpArgs false

def gval (v : Val) : Val := if v.kind % 4 = 1 then ⟨1, v.n % 2, ⟨#[]⟩⟩ else if v.kind % 4 = 2 then ⟨2, v.n, ⟨#[]⟩⟩ else if v.kind % 4 = 3 then ⟨3, 0, strOf (v.s.data.toList.take 60)⟩ else noV
theorem gval_fits (v : Val) (h : v.fits) : (gval v).fits := by
  obtain ⟨h1, h2, h3⟩ := h
  unfold gval
  split
  · exact ⟨by simp, by simp; omega, none_fits⟩
  · split
    · exact ⟨by simp, h2, none_fits⟩
    · split
      · refine ⟨by simp, by simp, ?_⟩
        show (strOf _).size ≤ _
        rw [strOf_size, List.length_take]
        unfold maxLen
        omega
      · exact ⟨by simp [noV], by simp [noV], none_fits⟩
end Go.Proofs.YtoahnhphfabajaaGreat
