/- What a step of a history does to both ledgers; digests of any ledger. -/
import Derived.Test.YtoahnhphfabajaaGreatGt1
import Derived.Test.YtoahnhphfabajaaGreatGt2
import Derived.Test.YtoahnhphfabajaaGreatLe2
namespace Go.Proofs.YtoahnhphfabajaaGreat
open Go.RowKit
set_option linter.unusedVariables false
set_option maxRecDepth 10000
set_option linter.unusedSimpArgs false
set_option linter.unnecessarySimpa false

/-- Closed, if there is something to close. -/
def clsL (L : Led) : Led := if L.opn.length = 0 then L else closeL L
def clsE (L : Led) : Int := if L.opn.length = 0 then 2 else 0
theorem stepL_cls (L : Led) (s : Stp) : stepL L s = if s.n % 4 = 3 then clsL L else addLed L (stCs s) := rfl
def digN (L : Led) : Int := match L.blks.getLast? with
  | none => 0
  | some b => b.n
def digE (L : Led) : Int := if L.blks.length = 0 then 2 else 0
theorem Close_all (L : Led) (hL : L.ok) (hroom : L.blks.length < 100000 ∧ L.txs.length < 100000) (ov bv tv : Value) (S : Nat → Prop) (w0 : World) (hd : LedR w0 S ov bv tv L) :
    Calls Tryz.prog 10 #[.agg #[.int .i64 L.next, ov, bv, tv]] w0 fun e w' => ∃ ov' bv' tv', e = .returned (.tuple #[.agg #[.int .i64 (clsL L).next, ov', bv', tv'], .int .i64 (clsE L)]) ∧ LedR w' (fun b => w0.heap.size ≤ b) ov' bv' tv' (clsL L) ∧ Turns [] w0 w' := by
  unfold clsL clsE
  by_cases h0 : L.opn.length = 0
  · rw [if_pos h0, if_pos h0]
    exact Close_none L hL (List.eq_nil_of_length_eq_zero h0) ov bv tv S w0 hd
  · rw [if_neg h0, if_neg h0]
    exact Close_any L hL hroom (by omega) ov bv tv S w0 hd
theorem RClose_all (L : Led) (hL : L.ok) (ov bv tv : Value) (S : Nat → Prop) (w0 : World) (hd : LedR w0 S ov bv tv L) :
    Calls Tryz.prog 11 #[.agg #[.int .i64 L.next, ov, bv, tv]] w0 fun e w' => ∃ ov' bv' tv', e = .returned (.tuple #[.agg #[.int .i64 (clsL L).next, ov', bv', tv'], .int .i64 (clsE L)]) ∧ LedR w' (fun b => S b ∨ w0.heap.size ≤ b) ov' bv' tv' (clsL L) ∧ Turns [] w0 w' := by
  unfold clsL clsE
  by_cases h0 : L.opn.length = 0
  · rw [if_pos h0, if_pos h0]
    exact (RClose_none L hL (List.eq_nil_of_length_eq_zero h0) ov bv tv S w0 hd).mono fun e w' ⟨he, ht⟩ => ⟨_, _, _, he, (hd.keep (ht.keeps0 _)).mono (fun j _ hj => .inl hj), ht⟩
  · rw [if_neg h0, if_neg h0]
    exact RClose_any L hL (by omega) ov bv tv S w0 hd
theorem dig_last (L : Led) (h : 0 < L.blks.length) : digN L = (L.blks[L.blks.length - 1]'(by omega)).n ∧ lastH L.blks = bloH (L.blks[L.blks.length - 1]'(by omega)) ∧ digE L = 0 := by
  refine ⟨?_, lastH_get L.blks h, if_neg (by omega)⟩
  unfold digN
  rw [List.getLast?_eq_getElem?, List.getElem?_eq_getElem (by omega)]
theorem dig_none (L : Led) (h : L.blks = []) : digN L = 0 ∧ lastH L.blks = zeros 32 ∧ digE L = 2 := by
  unfold digN digE
  rw [h]
  exact ⟨rfl, rfl, rfl⟩
theorem Digest_any (L : Led) (hL : L.ok) (ov bv tv : Value) (S : Nat → Prop) (w0 : World) (hd : LedR w0 S ov bv tv L) :
    Calls Tryz.prog 16 #[.agg #[.int .i64 L.next, ov, bv, tv]] w0 fun e w' => e = .returned (.tuple #[.agg (digCells (digN L) (lastH L.blks)).toArray, .int .i64 (digE L)]) ∧ Turns [] w0 w' := by
  by_cases h0 : 0 < L.blks.length
  · rw [(dig_last L h0).1, (dig_last L h0).2.1, (dig_last L h0).2.2]
    exact Digest_some L hL h0 ov bv tv S w0 hd
  · have he : L.blks = [] := List.eq_nil_of_length_eq_zero (by omega)
    rw [(dig_none L he).1, (dig_none L he).2.1, (dig_none L he).2.2]
    exact Digest_none L he ov bv tv S w0 hd
theorem RDigest_any (L : Led) (hL : L.ok) (ov bv tv : Value) (S : Nat → Prop) (w0 : World) (hd : LedR w0 S ov bv tv L) :
    Calls Tryz.prog 17 #[.agg #[.int .i64 L.next, ov, bv, tv]] w0 fun e w' => e = .returned (.tuple #[.agg (digCells (digN L) (lastH L.blks)).toArray, .int .i64 (digE L)]) ∧ Turns [] w0 w' := by
  by_cases h0 : 0 < L.blks.length
  · rw [(dig_last L h0).1, (dig_last L h0).2.1, (dig_last L h0).2.2]
    exact RDigest_some L hL h0 ov bv tv S w0 hd
  · have he : L.blks = [] := List.eq_nil_of_length_eq_zero (by omega)
    rw [(dig_none L he).1, (dig_none L he).2.1, (dig_none L he).2.2]
    exact RDigest_none L he ov bv tv S w0 hd

/-- Two ledgers that are alike, the program's and the document's, in their blocks. -/
def PlI (M : Led) (W : World) (pa pb : Nat) (w : World) : Prop := ∃ ov bv tv ov' bv' tv', Blk w pa [.int .i64 M.next, ov, bv, tv] 29 ∧ Blk w pb [.int .i64 M.next, ov', bv', tv'] 32 ∧
  LedR w (fun b => b ≠ pa ∧ b ≠ pb) ov bv tv M ∧ LedR w (fun b => b ≠ pa ∧ b ≠ pb) ov' bv' tv' M ∧ Turns [pa, pb] W w
theorem LedR.two {w w' : World} {pa pb : Nat} {ov bv tv : Value} {L : Led} (h : LedR w (fun b => b ≠ pa ∧ b ≠ pb) ov bv tv L) (t : Turns [pa, pb] w w') : LedR w' (fun b => b ≠ pa ∧ b ≠ pb) ov bv tv L :=
  h.keep (t.keepsB _ (by intro x hx _ h; simp at hx; rcases hx with rfl | rfl; exact h.1 rfl; exact h.2 rfl))
/-- A ledger and a transaction that were laid into blocks of their own. -/
def AddQ (W : World) (M : Led) (id : Int) (cs : List Chg) (ty : TypeId) (pa pb : Nat) (u v : Value) (w : World) : Prop := ∃ g h ov bv tv cv, u = .pointer (some ⟨g, 0, none⟩) ∧ v = .pointer (some ⟨h, 0, none⟩) ∧ W.heap.size ≤ g ∧ W.heap.size ≤ h ∧
  Blk w g [.int .i64 M.next, ov, bv, tv] ty ∧ Blk w h [.int .i64 id, cv] 45 ∧ LedR w (fun b => b ≠ pa ∧ b ≠ pb) ov bv tv M ∧ Deep ChgR w (fun _ => True) 3 cv cs ∧ Turns [] W w
theorem tx_lit {w : World} {S : Nat → Prop} {id : Int} {cv : Value} {cs : List Chg} (h : Deep ChgR w S 3 cv cs) : Deep TxR (w.alloc (.cells #[.int .i64 id, cv] 45)) (fun _ => True) 2 (.slice (some ⟨w.heap.size, 0, none⟩) 1 1) [⟨id, cs⟩] :=
  Deep.mk' (css := [[.int .i64 id, cv]]) rfl (by intro x hx; simp at hx; subst hx; rfl) (fun i hi hi' => by
    obtain rfl : i = 0 := by simp at hi; omega
    exact ⟨_, rfl, (h.keep ChgR.lasts (((Turns.refl [] w).alloc _).keeps0 _)).mono ChgR.lasts (fun _ _ _ => trivial)⟩)
    ((Sl.new w #[.int .i64 id, cv] 45 1 2 rfl (by simp [maxLen])).slS (fun _ _ _ => trivial))
end Go.Proofs.YtoahnhphfabajaaGreat
