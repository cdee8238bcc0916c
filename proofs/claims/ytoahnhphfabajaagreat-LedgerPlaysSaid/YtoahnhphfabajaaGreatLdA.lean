/- The ledger in plain words; how its parts lie in memory. -/
import Derived.Test.YtoahnhphfabajaaGreatGC
import Derived.Test.YtoahnhphfabajaaGreatGE
namespace Go.Proofs.YtoahnhphfabajaaGreat
open Go.RowKit
set_option linter.unusedVariables false
set_option maxRecDepth 10000
set_option linter.unusedSimpArgs false
set_option linter.unnecessarySimpa false

/-- A change, a transaction, a block, a ledger. -/
structure Chg where
  table : ByteArray
  op : Int
  row : List Val
structure Txn where
  id : Int
  chs : List Chg
structure Blo where
  n : Int
  prev : List UInt8
  root : List UInt8
  cnt : Int
structure Led where
  next : Int
  opn : List Txn
  blks : List Blo
  txs : List (List Txn)
def i64ok (n : Int) : Prop := -9223372036854775808 ≤ n ∧ n ≤ 9223372036854775807
structure Chg.ok (c : Chg) : Prop where
  table : c.table.size ≤ 1000
  op : i64ok c.op
  len : c.row.length ≤ 100
  row : ∀ v ∈ c.row, v.fits
structure Txn.ok (t : Txn) : Prop where
  id : i64ok t.id
  len : t.chs.length ≤ 1000
  chs : ∀ c ∈ t.chs, c.ok
structure Blo.ok (b : Blo) : Prop where
  prev : b.prev.length = 32
  root : b.root.length = 32
structure Led.ok (L : Led) : Prop where
  next : 0 ≤ L.next ∧ L.next ≤ 100000
  opn : L.opn.length ≤ 1000
  blks : L.blks.length ≤ 100000
  txs : L.txs.length ≤ 100000
  otx : ∀ t ∈ L.opn, t.ok
  blo : ∀ b ∈ L.blks, b.ok
  tl : ∀ l ∈ L.txs, l.length ≤ 1000
  tt : ∀ l ∈ L.txs, ∀ t ∈ l, t.ok

/-- What the sums are over. -/
def chgText (tx seq : Int) (c : Chg) : List UInt8 := le8 tx ++ le8 seq ++ [byte1 c.op] ++ textBytes c.table.data.toList ++ textBytes (rowBytes c.row)
def chgSum (tx seq : Int) (c : Chg) : List UInt8 := leafH (chgText tx seq c)
def txRows (t : Txn) : List (List UInt8) := t.chs.mapIdx fun i c => chgSum t.id i c
def txRoot (t : Txn) : List UInt8 := mroot (txRows t)
def entText (id n : Int) (r : List UInt8) : List UInt8 := le8 id ++ le8 n ++ r
def entry (t : Txn) : List UInt8 := leafH (entText t.id (t.chs.length : Nat) (txRoot t))
def bloText (b : Blo) : List UInt8 := le8 b.n ++ b.prev ++ b.root ++ le8 b.cnt
def bloH (b : Blo) : List UInt8 := sha (bloText b)
theorem chgSum_len (tx seq : Int) (c : Chg) : (chgSum tx seq c).length = 32 := sha_len _
theorem bloH_len (b : Blo) : (bloH b).length = 32 := sha_len _
theorem entry_len (t : Txn) : (entry t).length = 32 := sha_len _
theorem txRows_len (t : Txn) : (txRows t).length = t.chs.length := by simp [txRows]
theorem txRows_all (t : Txn) : ∀ h ∈ txRows t, h.length = 32 := by
  intro h hh
  unfold txRows at hh
  obtain ⟨i, hi, rfl⟩ := List.mem_mapIdx.1 hh
  exact chgSum_len _ _ _
theorem txRows_step (t : Txn) (k : Nat) (hk : k < t.chs.length) : (txRows t).take (k + 1) = (txRows t).take k ++ [chgSum t.id k t.chs[k]] := by
  rw [List.take_succ_eq_append_getElem (by rw [txRows_len]; exact hk)]
  simp [txRows]
theorem txRoot_len (t : Txn) : (txRoot t).length = 32 := mroot_len _ (txRows_all t)
theorem chgText_len (tx seq : Int) (c : Chg) (h : c.ok) : (chgText tx seq c).length ≤ 10000000 := by
  have h1 := rowBytes_len c.row
  have h2 := h.len
  have h3 := h.table
  have h4 : c.table.data.toList.length = c.table.size := rfl
  unfold chgText
  simp only [List.length_append, le8_length, textBytes_length, List.length_singleton, h4]
  omega

/-- What is done with a ledger. -/
def lastH (bs : List Blo) : List UInt8 := match bs.getLast? with
  | none => zeros 32
  | some b => bloH b
theorem lastH_len (bs : List Blo) : (lastH bs).length = 32 := by
  unfold lastH
  split
  · exact zeros_length 32
  · exact bloH_len _
def newBlo (bs : List Blo) (o : List Txn) : Blo := ⟨((bs.length : Nat) : Int) + 1, lastH bs, mroot (o.map entry), (o.length : Nat)⟩
def closeL (L : Led) : Led := ⟨L.next, [], L.blks ++ [newBlo L.blks L.opn], L.txs ++ [L.opn]⟩
def pushL (L : Led) (c : List Chg) : Led := ⟨L.next + 1, L.opn ++ [⟨L.next, c⟩], L.blks, L.txs⟩
def addLed (L : Led) (c : List Chg) : Led := if 4 ≤ (pushL L c).opn.length then closeL (pushL L c) else pushL L c
def led0 : Led := ⟨0, [], [], []⟩
theorem entries_all (l : List Txn) : ∀ h ∈ l.map entry, h.length = 32 := by
  intro h hh
  obtain ⟨t, _, rfl⟩ := List.mem_map.1 hh
  exact entry_len t
theorem newBlo_ok (bs : List Blo) (o : List Txn) : (newBlo bs o).ok := ⟨lastH_len bs, mroot_len _ (entries_all o)⟩

/-- A block's cells. -/
def Blo.cells (b : Blo) : List Value := .int .i64 b.n :: (bvs b.prev ++ bvs b.root ++ [.int .i64 b.cnt])
theorem Blo.cells_len {b : Blo} (h : b.ok) : b.cells.length = 66 := by
  simp [Blo.cells, bvs_length, h.prev, h.root]
theorem Blo.cells_one (b : Blo) : ∀ u ∈ b.cells, u.oneCell' = true := by
  intro u hu
  simp only [Blo.cells, List.mem_cons, List.mem_append, List.not_mem_nil, or_false] at hu
  rcases hu with rfl | (hu | hu) | rfl
  · rfl
  · exact bvs_one _ u hu
  · exact bvs_one _ u hu
  · rfl
def bloCells (l : List Blo) : List Value := l.flatMap Blo.cells
theorem bloCells_one (l : List Blo) : ∀ u ∈ bloCells l, u.oneCell' = true := by
  intro u hu
  obtain ⟨b, _, hb⟩ := List.mem_flatMap.1 hu
  exact b.cells_one u hb
theorem bloCells_app (a b : List Blo) : bloCells (a ++ b) = bloCells a ++ bloCells b := by simp [bloCells]

/-- Chunks of one size, one behind the other. -/
theorem flat_get {α : Type} (size : Nat) : ∀ (css : List (List α)), (∀ c ∈ css, c.length = size) → ∀ (k j : Nat) (hk : k < css.length), j < size → css.flatten[k * size + j]? = (css[k])[j]?
  | [], _, k, j, hk, _ => by simp at hk
  | c :: css, h, 0, j, hk, hj => by
    rw [List.flatten_cons, Nat.zero_mul, Nat.zero_add, List.getElem?_append_left (by rw [h c (by simp)]; exact hj)]; rfl
  | c :: css, h, k + 1, j, hk, hj => by
    have hc := h c (by simp)
    rw [List.flatten_cons, List.getElem?_append_right (by rw [hc, Nat.succ_mul]; omega), hc, show (k + 1) * size + j - size = k * size + j by rw [Nat.succ_mul]; omega]
    exact flat_get size css (fun x hx => h x (by simp [hx])) k j (by simpa using hk) hj
/-- The parts of a ledger in memory. -/
def ChgR (w : World) (S : Nat → Prop) (cs : List Value) (c : Chg) : Prop := ∃ rv, cs = [.string c.table, .int .i64 c.op, rv] ∧ SlS w S 3 rv c.row.length (valCells c.row)
def TxR (w : World) (S : Nat → Prop) (cs : List Value) (t : Txn) : Prop := ∃ cv, cs = [.int .i64 t.id, cv] ∧ Deep ChgR w S 3 cv t.chs
def TxsR (w : World) (S : Nat → Prop) (cs : List Value) (l : List Txn) : Prop := ∃ v, cs = [v] ∧ Deep TxR w S 2 v l
theorem ChgR.lasts : Lasts ChgR := ⟨fun ⟨rv, e, h⟩ k => ⟨rv, e, h.keep k⟩, fun ⟨rv, e, h⟩ hS => ⟨rv, e, h.mono hS⟩⟩
theorem TxR.lasts : Lasts TxR := ⟨fun ⟨rv, e, h⟩ k => ⟨rv, e, h.keep ChgR.lasts k⟩, fun ⟨rv, e, h⟩ hS => ⟨rv, e, h.mono ChgR.lasts hS⟩⟩
theorem TxsR.lasts : Lasts TxsR := ⟨fun ⟨rv, e, h⟩ k => ⟨rv, e, h.keep TxR.lasts k⟩, fun ⟨rv, e, h⟩ hS => ⟨rv, e, h.mono TxR.lasts hS⟩⟩
structure LedR (w : World) (S : Nat → Prop) (ov bv tv : Value) (L : Led) : Prop where
  opn : Deep TxR w S 2 ov L.opn
  blks : SlS w S 66 bv L.blks.length (bloCells L.blks)
  txs : Deep TxsR w S 1 tv L.txs
section
variable {w w' : World} {S S' : Nat → Prop} {ov bv tv : Value} {L : Led}
theorem LedR.keep (h : LedR w S ov bv tv L) (k : Keeps S w w') : LedR w' S ov bv tv L := ⟨h.opn.keep TxR.lasts k, h.blks.keep k, h.txs.keep TxsR.lasts k⟩
theorem LedR.mono (h : LedR w S ov bv tv L) (hS : ∀ k, k < w.heap.size → S k → S' k) : LedR w S' ov bv tv L := ⟨h.opn.mono TxR.lasts hS, h.blks.mono hS, h.txs.mono TxsR.lasts hS⟩
end
theorem LedR.zero {w : World} {S : Nat → Prop} : LedR w S (.slice none 0 0) (.slice none 0 0) (.slice none 0 0) led0 := ⟨Deep.nil, SlS.nil, Deep.nil⟩

section
variable {α : Type} {R : World → (Nat → Prop) → List Value → α → Prop} {w w' : World} {S S' : Nat → Prop} {size : Nat} {v : Value} {l : List α}
theorem Deep.css (h : Deep R w S size v l) : ∃ css : List (List Value), css.length = l.length ∧ (∀ c ∈ css, c.length = size) ∧ (∀ i (h : i < l.length) (h' : i < css.length), R w S css[i] l[i]) ∧ SlS w S size v l.length css.flatten := by
  obtain ⟨css, h1, h2, h3⟩ := h
  refine ⟨css, h1, fun c hc => ?_, fun i hi hi' => ?_, h3⟩
  · obtain ⟨i, hi, rfl⟩ := List.mem_iff_getElem.1 hc
    have := (h2 i (by omega)).1
    simpa [List.getD, List.getElem?_eq_getElem hi] using this
  · have := (h2 i hi).2
    simpa [List.getD, List.getElem?_eq_getElem hi'] using this
theorem Deep.mk' {css : List (List Value)} (h1 : css.length = l.length) (h2 : ∀ c ∈ css, c.length = size) (h3 : ∀ i (h : i < l.length) (h' : i < css.length), R w S css[i] l[i]) (h4 : SlS w S size v l.length css.flatten) : Deep R w S size v l := by
  refine ⟨css, h1, fun i hi => ?_, h4⟩
  have hi' : i < css.length := by omega
  have e : css.getD i [] = css[i] := by simp [List.getD, List.getElem?_eq_getElem hi']
  rw [e]
  exact ⟨h2 _ (List.getElem_mem hi'), h3 i hi hi'⟩
/-- One element of a deep row: where it lies, what it says. -/
theorem Deep.at_ (h : Deep R w S size v l) (hsz : 0 < size) (k : Nat) (hk : k < l.length) : ∃ b off c cs, v = .slice (some ⟨b, off, none⟩) l.length c ∧ S b ∧ b < w.heap.size ∧ cs.length = size ∧ w.rangeAt b (off + k * size) cs ∧ R w S cs l[k] := by
  obtain ⟨css, h1, h2, h3, h4⟩ := h.css
  obtain ⟨hl, A, c, rfl, _, _, _, hr⟩ := h4
  have hk' : k < css.length := by omega
  obtain ⟨b, off, rfl, ⟨hs, hb⟩, hc⟩ := hr (by
    intro e
    rw [e] at hl
    have : 0 < l.length * size := Nat.mul_pos (by omega) hsz
    simp at hl; omega)
  refine ⟨b, off, c, css[k], rfl, hs, hb, h2 _ (List.getElem_mem hk'), fun j u hu => ?_, h3 k hk hk'⟩
  have hj : j < size := by have := (List.getElem?_eq_some_iff.1 hu).1; rw [h2 _ (List.getElem_mem hk')] at this; exact this
  rw [Nat.add_assoc]
  exact hc _ _ (by rw [flat_get size css h2 k j hk' hj]; exact hu)
theorem Deep.form (h : Deep R w S size v l) : ∃ A c, v = .slice A l.length c ∧ l.length ≤ c ∧ c ≤ maxLen ∧ (A = none → c = 0) := by
  obtain ⟨_, _, _, h4⟩ := h
  obtain ⟨_, A, c, hv, a, b, d, _⟩ := h4
  exact ⟨A, c, hv, a, b, d⟩
end
theorem SlS.form' {w : World} {S : Nat → Prop} {size n : Nat} {v : Value} {xs : List Value} (h : SlS w S size v n xs) : ∃ A c, v = .slice A n c ∧ n ≤ c ∧ c ≤ maxLen ∧ (A = none → c = 0) := by
  obtain ⟨_, A, c, hv, a, b, d, _⟩ := h
  exact ⟨A, c, hv, a, b, d⟩
theorem blo_at {w : World} {S : Nat → Prop} {v : Value} {l : List Blo} (h : SlS w S 66 v l.length (bloCells l)) (ha : ∀ b ∈ l, b.ok) (k : Nat) (hk : k < l.length) : ∃ b off c, v = .slice (some ⟨b, off, none⟩) l.length c ∧ S b ∧ b < w.heap.size ∧ w.rangeAt b (off + k * 66) l[k].cells := by
  obtain ⟨hl, A, c, rfl, _, _, _, hr⟩ := h
  obtain ⟨b, off, rfl, ⟨hs, hb⟩, hc⟩ := hr (by intro e; rw [e] at hl; simp at hl; omega)
  refine ⟨b, off, c, rfl, hs, hb, fun j u hu => ?_⟩
  have hj : j < 66 := by have := (List.getElem?_eq_some_iff.1 hu).1; rw [Blo.cells_len (ha _ (List.getElem_mem hk))] at this; exact this
  rw [Nat.add_assoc]
  refine hc _ _ ?_
  have := flat_get 66 (l.map Blo.cells) (by intro c hc; obtain ⟨b, hb, rfl⟩ := List.mem_map.1 hc; exact Blo.cells_len (ha b hb)) k j (by simpa using hk) hj
  unfold bloCells
  rw [List.flatMap_def, this]
  simpa using hu
end Go.Proofs.YtoahnhphfabajaaGreat
