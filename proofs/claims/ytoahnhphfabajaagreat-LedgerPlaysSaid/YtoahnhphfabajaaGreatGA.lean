/- Words for memory: a slice that reads as a list of cells, and how such a reading is carried from world to world. Contracts of the library's slices functions at []byte. Contracts of package code: what is written. Contracts of package ledgerlineref1: what is written. What an operation on some blocks leaves as it was; a block's cells, whole. A row of bytes of the caller's own, W0 the world where it began. The shape of an owned slice. The writers, code's and the document's, in one form: a row of the caller's own, W0 the world where it began. within: a number from 0 to n - 1. Numbers as bytes: plain arithmetic. -/
import Derived.WalkKit
import Derived.WalkSpells
import Derived.WalkLawsBesides
import Derived.Deep.AppendLies
import Derived.Deep.Draws
import Derived.Deep.QuietTactic
import Derived.Deep.RegionHeld3
import Derived.Deep.DrawnRows
import Derived.Deep.MidRow
import Derived.Deep.Light
import Derived.BigQuiet
import Derived.Lib.Hide
import Derived.Lib.ConvBytes
import Derived.Lib.AppendZeros
import Derived.Lib.AppendStr
import Derived.Laws.CopyOwn
import Derived.Test.YtoahnhphfabajaaGreatProg
namespace Go.Proofs.YtoahnhphfabajaaGreat
set_option maxRecDepth 10000
open Go.RowKit
set_option linter.unusedVariables false
set_option maxRecDepth 10000

/-- A byte as the model has it; bytes. -/
def u8v (b : UInt8) : Value := .int .u8 (b.toNat : Int)
def bvs (bs : List UInt8) : List Value := bs.map u8v
theorem bvs_length (bs : List UInt8) : (bvs bs).length = bs.length := by simp [bvs]
theorem bvs_append (a b : List UInt8) : bvs (a ++ b) = bvs a ++ bvs b := by simp [bvs]
theorem bvs_one (bs : List UInt8) : ∀ u ∈ bvs bs, u.oneCell' = true := by
  intro u hu
  obtain ⟨b, _, rfl⟩ := List.mem_map.1 hu
  rfl

/-- The cells xs lie at the address A, in a block below B. -/
def Rd (w : World) (B : Nat) (A : Option Addr) (xs : List Value) : Prop :=
  xs ≠ [] → ∃ b off, A = some ⟨b, off, none⟩ ∧ b < B ∧ ∀ j u, xs[j]? = some u → w.cell? ⟨b, off + j, none⟩ = some u

section
variable {w w' : World} {B B' : Nat} {A : Option Addr} {xs ys : List Value}
theorem Rd.nil : Rd w B A [] := fun h => absurd rfl h
theorem Rd.keep (h : Rd w B A xs) (hk : ∀ p : Addr, p.block < B → w'.cell? p = w.cell? p) : Rd w' B A xs := fun hn => by
  obtain ⟨b, off, e, hb, hc⟩ := h hn
  exact ⟨b, off, e, hb, fun j u hu => (hk ⟨b, off + j, none⟩ hb).trans (hc j u hu)⟩
theorem Rd.more (h : Rd w B A xs) (hB : B ≤ B') : Rd w B' A xs := fun hn => by
  obtain ⟨b, off, e, hb, hc⟩ := h hn
  exact ⟨b, off, e, by omega, hc⟩
theorem Rd.at_ (h : Rd w B A xs) {k : Nat} (hk : k < xs.length) : ∃ b off, A = some ⟨b, off, none⟩ ∧ b < B ∧ w.cell? ⟨b, off + k, none⟩ = some xs[k] := by
  obtain ⟨b, off, e, hb, hc⟩ := h (by intro h0; subst h0; simp at hk)
  exact ⟨b, off, e, hb, hc k _ (List.getElem?_eq_getElem hk)⟩
theorem Rd.left (h : Rd w B A (xs ++ ys)) : Rd w B A xs := fun hn => by
  obtain ⟨b, off, e, hb, hc⟩ := h (by simp [hn])
  refine ⟨b, off, e, hb, fun j u hu => hc j u ?_⟩
  rw [List.getElem?_append_left (List.getElem?_eq_some_iff.1 hu).1]; exact hu
theorem Rd.take (h : Rd w B A xs) (k : Nat) : Rd w B A (xs.take k) := by
  rw [← List.take_append_drop k xs] at h; exact h.left
theorem Rd.drop (h : Rd w B A xs) (k : Nat) : Rd w B (A.map fun a => ⟨a.block, a.off + k, none⟩) (xs.drop k) := fun hn => by
  obtain ⟨b, off, rfl, hb, hc⟩ := h (by intro h0; subst h0; simp at hn)
  refine ⟨b, off + k, rfl, hb, fun j u hu => ?_⟩
  rw [Nat.add_assoc]
  exact hc _ u (by rw [← hu, List.getElem?_drop])
theorem Rd.of_own {base : Nat} {e : TypeId} {size n c : Nat} (h : w.ownsRow base e size (.slice A n c) n xs) : Rd w w.heap.size A xs := fun hn => by
  rcases h.2 with ⟨_, h0⟩ | ⟨g, cap, cur, hv, hb, hg, _⟩
  · subst h0
    have := h.1
    simp at this
    exact absurd this hn
  · injection hv with hA
    subst hA
    refine ⟨g, 0, rfl, (Array.getElem?_eq_some_iff.1 hg).1, fun j u hu => ?_⟩
    rw [← h.cells (g := g) rfl j u hu, Addr.add_lit]
end

/-- A slice value v of n elements, 'size' cells each, reads as the cells xs. -/
structure Sl (w : World) (B : Nat) (size : Nat) (v : Value) (n : Nat) (xs : List Value) : Prop where
  len : xs.length = n * size
  form : ∃ A c, v = .slice A n c ∧ n ≤ c ∧ c ≤ maxLen ∧ (A = none → c = 0) ∧ Rd w B A xs

section
variable {w w' : World} {B B' size n : Nat} {v : Value} {xs ys : List Value}
theorem Sl.nil : Sl w B size (.slice none 0 0) 0 [] := ⟨by simp, none, 0, rfl, Nat.le_refl _, Nat.zero_le _, fun _ => rfl, Rd.nil⟩
theorem Sl.keep (h : Sl w B size v n xs) (hk : ∀ p : Addr, p.block < B → w'.cell? p = w.cell? p) : Sl w' B size v n xs := by
  obtain ⟨hl, A, c, hv, h1, h2, h3, hr⟩ := h
  exact ⟨hl, A, c, hv, h1, h2, h3, hr.keep hk⟩
theorem Sl.more (h : Sl w B size v n xs) (hB : B ≤ B') : Sl w B' size v n xs := by
  obtain ⟨hl, A, c, hv, h1, h2, h3, hr⟩ := h
  exact ⟨hl, A, c, hv, h1, h2, h3, hr.more hB⟩
theorem Sl.below (h : Sl w B size v n xs) (hb : Below B w w') : Sl w' B size v n xs := h.keep fun _ hp => hb.cell hp
theorem Sl.below_le (h : Sl w B size v n xs) (hb : Below B' w w') (hB : B ≤ B') : Sl w' B size v n xs := h.keep fun _ hp => hb.cell (by omega)
theorem Sl.alloc (h : Sl w B size v n xs) (hB : B ≤ w.heap.size) (o : Obj) : Sl (w.alloc o) B size v n xs := h.keep fun p hp => World.cell?_alloc_lt w o p (by omega)
theorem Sl.of_own {base : Nat} {e : TypeId} (h : w.ownsRow base e size v n xs) : Sl w w.heap.size size v n xs := by
  refine ⟨h.1, ?_⟩
  rcases h.2 with ⟨rfl, rfl⟩ | ⟨g, cap, cur, rfl, hb, hg, hn, hm, r⟩
  · have := h.1
    simp at this
    subst this
    exact ⟨none, 0, rfl, Nat.le_refl _, Nat.zero_le _, fun _ => rfl, Rd.nil⟩
  · exact ⟨_, cap, rfl, hn, hm, (fun h => by cases h), Rd.of_own h⟩
end

/-- A slice type's row of the program's tables. -/
structure SliceTy (P : Program) (t e : TypeId) (z : Value) (size bytes : Nat) : Prop where
  und : P.underlying t = some (.slice e)
  info : (P.info? e).map (fun i => (i.zero, i.size, i.bytes)) = some (some z, size, bytes)
  cells : z.cells.size = size
  pos : 0 < size

/-- What an append leaves: the new slice owns what it must; the old one reads as it did; nothing else has turned; where it lies. -/
structure Apd (base : Nat) (e : TypeId) (size : Nat) (w : World) (v : Value) (n0 : Nat) (xs0 : List Value) (w' : World) (v' : Value) (n : Nat) (xs : List Value) : Prop where
  own : w'.ownsRow base e size v' n xs
  old : w'.ownsRow base e size v n0 xs0
  grown : w.grownBy w' v.ownBlock
  lies : v'.ownBlock = v.ownBlock ∨ ∃ g, v'.ownBlock = some g ∧ w.heap.size ≤ g

section
variable {base : Nat} {e : TypeId} {size n m B : Nat} {w0 w w' : World} {v v' : Value} {xs ys : List Value}
theorem Apd.below (h : Apd base e size w v n xs w' v' m ys) (hb : Below B w0 w) (hown : w.ownsRow base e size v n xs) (h1 : B ≤ base) (h2 : B ≤ w.heap.size) : Below B w0 w' :=
  hb.grown h.grown h2 (fun k hk => Nat.le_trans h1 (hown.lt k hk).1)

theorem Apd.grow (hown : w.ownsRow base e size v n xs) (hb : base ≤ w.heap.size) (z : Value) (hzs : z.cells.size = size) (news : List Value) (hl : news.length = m * size) (cap : Nat) (h1 : n + m ≤ cap) (h2 : cap ≤ maxLen) :
    Apd base e size w v n xs (w.drew.alloc (.cells (xs.toArray ++ news.toArray ++ Builtin.zeroCells z.cells (cap - (n + m))) e)) (.slice (some ⟨w.heap.size, 0, none⟩) (n + m) cap) (n + m) (xs ++ news) := by
  have hlen : (xs ++ news).length = (n + m) * size := by rw [List.length_append, hown.1, hl, Nat.add_mul]
  refine ⟨⟨hlen, .inr ⟨w.heap.size, _, _, rfl, hb, heap_alloc_new w.drew _, h1, h2, ?_, ?_⟩⟩, (hown.drew).alloc _, ⟨rfl, rfl, rfl, by simp, fun k hk _ => heap_alloc_old w.drew _ hk⟩, .inr ⟨_, rfl, Nat.le_refl _⟩⟩
  · simp only [Array.size_append, List.size_toArray, size_zeroCells, hzs, hown.1, hl, ← Nat.add_mul]
    congr 1
    omega
  · simp only [Array.toList_append, List.append_assoc]
    rw [← List.append_assoc, ← hlen]
    exact List.take_left

theorem Apd.refl (hown : w.ownsRow base e size v n xs) : Apd base e size w v n xs w v n xs := ⟨hown, hown, World.grownBy.refl w _, .inl rfl⟩

/-- One append behind another, new blocks between. -/
theorem Apd.trans {w1 w2 : World} {v1 : Value} {k : Nat} {zs : List Value} (hsz : 0 < size) (h0 : Apd base e size w v n xs w1 v1 m ys) (hmid : w1.grownBy w2 none) (h : Apd base e size w2 v1 m ys w' v' k zs) (hnm : n ≤ m) (hxy : ys.take (n * size) = xs) :
    Apd base e size w v n xs w' v' k zs := by
  have hold2 : w2.ownsRow base e size v n xs := h0.old.kept hmid (by cases v.ownBlock <;> simp)
  refine ⟨h.own, ?_, ⟨h.grown.os.trans (hmid.os.trans h0.grown.os), h.grown.tape.trans (hmid.tape.trans h0.grown.tape), h.grown.output.trans (hmid.output.trans h0.grown.output), Nat.le_trans h0.grown.size (Nat.le_trans hmid.size h.grown.size), fun j hj hne => ?_⟩, ?_⟩
  · by_cases hb : v.ownBlock = v1.ownBlock
    · -- the same row
      refine ⟨hold2.1, ?_⟩
      rcases hold2.2 with hn | ⟨g, cap, cur, rfl, hbg, hg, hnc, hcm, hcs, htake⟩
      · exact .inl hn
      · refine .inr ⟨g, cap, ?_⟩
        have hb' : v1.ownBlock = some g := by rw [← hb]; rfl
        rcases h.old.2 with ⟨rfl, _⟩ | ⟨g1, cap1, cur1, rfl, _, hg1, _, _, hcs1, htake1⟩
        · simp [Value.ownBlock] at hb'
        · have : g1 = g := by simpa [Value.ownBlock] using hb'
          subst this
          refine ⟨cur1, rfl, hbg, hg1, hnc, hcm, ?_, ?_⟩
          · rcases (h0.own.kept hmid (by cases (Value.ownBlock (.slice (some ⟨g1, 0, none⟩) m cap1)) <;> simp)).2 with ⟨h', _⟩ | ⟨g2, cap2, cur2, h', _, hg2, _, _, hcs2, _⟩
            · cases h'
            · injection h' with h1 h2 h3
              injection h1 with h1
              injection h1 with h1
              subst h1 h3
              rw [hg] at hg2
              injection hg2 with hg2
              injection hg2 with hg2
              subst hg2
              rw [hcs1, ← hcs2, hcs]
          · rw [← hxy, ← htake1, List.take_take, Nat.min_eq_left (Nat.mul_le_mul_right _ hnm)]
    · exact hold2.kept h.grown (.inr hb)
  · rw [h.grown.block j (Nat.lt_of_lt_of_le hj (Nat.le_trans h0.grown.size hmid.size)) ?_, hmid.block j (Nat.lt_of_lt_of_le hj h0.grown.size) (by simp), h0.grown.block j hj hne]
    rcases h0.lies with hl | ⟨g, hl, hge⟩
    · rw [hl]; exact hne
    · rw [hl]; intro he; injection he with he; omega
  · rcases h.lies with hl | ⟨g, hl, hge⟩
    · rw [hl]; exact h0.lies
    · exact .inr ⟨g, hl, Nat.le_trans h0.grown.size (Nat.le_trans hmid.size hge)⟩

theorem Apd.room {g cap : Nat} {cur : Array Value} (hown : w.ownsRow base e size (.slice (some ⟨g, 0, none⟩) n cap) n xs) (hb : base ≤ g) (hg : w.heap[g]? = some (.cells cur e (0, 0))) (hcm : cap ≤ maxLen) (hnc : n ≤ cap)
    (hcs : cur.size = cap * size) (htake : cur.toList.take (n * size) = xs) (news : List Value) (hl : news.length = m * size) (hroom : n + m ≤ cap) :
    Apd base e size w (.slice (some ⟨g, 0, none⟩) n cap) n xs (w.setRow g (cur.toList.take (n * size) ++ news ++ cur.toList.drop (n * size + news.length)).toArray) (.slice (some ⟨g, 0, none⟩) (n + m) cap) (n + m) (xs ++ news) := by
  have hlen : (xs ++ news).length = (n + m) * size := by rw [List.length_append, hown.1, hl, Nat.add_mul]
  have hfit : n * size + news.length ≤ cur.size := by rw [hl, hcs, ← Nat.add_mul]; exact Nat.mul_le_mul_right _ hroom
  have hsz : (cur.toList.take (n * size) ++ news ++ cur.toList.drop (n * size + news.length)).toArray.size = cap * size := by
    simp only [List.size_toArray, List.length_append, List.length_take, List.length_drop, Array.length_toList]
    omega
  refine ⟨⟨hlen, .inr ⟨g, cap, _, rfl, hb, setRow_heap w g cur _ e _ hg, hroom, hcm, hsz, ?_⟩⟩, ⟨hown.1, .inr ⟨g, cap, _, rfl, hb, setRow_heap w g cur _ e _ hg, hnc, hcm, hsz, ?_⟩⟩, ⟨rfl, rfl, rfl, by simp, fun k _ hk => setRow_other w g k _ (fun e => hk (by simp [Value.ownBlock, e]))⟩, .inl rfl⟩
  · rw [htake, ← hlen]
    exact List.take_left
  · rw [htake, ← hown.1, List.append_assoc]
    exact List.take_left
end

section
variable {P : Program} (w : World)

/-- append onto a row of the call's own, whatever is appended. -/
theorem run_append_rd {t e : TypeId} {z : Value} {size bytes : Nat} (T : SliceTy P t e z size bytes) (ty : TypeId) {base : Nat}
    {v : Value} {n : Nat} {xs : List Value} (hown : w.ownsRow base e size v n xs)
    {B : Nat} {x : Value} {m : Nat} {news : List Value} (hr : Sl w B size x m news) (h1 : ∀ u ∈ news, u.oneCell' = true)
    (h63 : n + m ≤ maxLen) (hbytes : (n + m) * bytes ≤ 140737488355328) (hbase : base ≤ w.heap.size) :
    ∃ v' w', (Builtin.append_ #[t, t] ty #[v, x]).run P w = .ok v' w' ∧ Apd base e size w v n xs w' v' (n + m) (xs ++ news) := by
  obtain ⟨ht, hinfo, hzs, hsz⟩ := T
  obtain ⟨i, hi, hz, hsize, hby⟩ := info_parts hinfo
  obtain ⟨hl, A, c, rfl, hnc, hcm, hA, hrd⟩ := hr
  have h63' : n + m ≤ 9223372036854775807 := by simp only [maxLen] at h63; omega
  subst hsize hby
  -- where nothing is appended
  by_cases h0 : m = 0
  · subst h0
    have hn0 : news = [] := List.eq_nil_of_length_eq_zero (by omega)
    subst hn0
    refine ⟨v, w, ?_, ⟨by simpa using hown, hown, World.grownBy.refl w _, .inl rfl⟩⟩
    rcases hown.2 with ⟨rfl, rfl⟩ | ⟨g, cap, cur, rfl, _, _, hnc, _⟩
    · cases A <;> simp [Builtin.append_, run_underlying ht, sizeOf, typeInfo, hi, Builtin.lenOf, Builtin.firstCells, loadCells, loadCellsFrom]
    · cases A <;> simp [Builtin.append_, run_underlying ht, sizeOf, typeInfo, hi, Builtin.lenOf, Builtin.firstCells, hnc, storeCells, loadCells, loadCellsFrom]
  · have hnn : news ≠ [] := by
      intro h; subst h
      have := Nat.mul_pos (Nat.pos_of_ne_zero h0) hsz
      simp only [List.length_nil] at hl
      omega
    obtain ⟨b, off, rfl, _, hcells⟩ := hrd hnn
    replace hcells : ∀ j u, news[j]? = some u → w.cell? ((⟨b, off, none⟩ : Addr).add j) = some u := fun j u hu => by rw [Addr.add_lit]; exact hcells j u hu
    rcases hown.2 with ⟨rfl, rfl⟩ | ⟨g, cap, cur, rfl, hbg, hg, hnc', hcm', hcs, htake⟩
    · have hx : xs = [] := List.eq_nil_of_length_eq_zero (by simpa using hown.1)
      subst hx
      have hr := run_append_nil (P := P) w t ty e i z ht hi hz ⟨b, off, none⟩ m c news hl hcells (by omega) (by omega) (by have hb := hbytes; simp only [Nat.zero_add] at hb; omega)
      have hgr := Apd.grow hown hbase z hzs news hl (grownCap w m 0 e) (by have := grownCap_ge w m 0 e; omega) (grownCap_le_maxLen w m 0 e (by omega))
      simp only [Nat.zero_add, List.nil_append, Array.empty_append] at hgr ⊢
      exact ⟨_, _, hr, hgr⟩
    · by_cases hroom : n + m ≤ cap
      · have hr := run_append_room (P := P) w t ty e i ht hi g n cap cur hg ⟨b, off, none⟩ m c news hl hcells h1 hroom (by rw [hl, hcs, ← Nat.add_mul]; exact Nat.mul_le_mul_right _ hroom)
        exact ⟨_, _, hr, Apd.room hown hbg hg hcm' hnc' hcs htake news hl hroom⟩
      · have hr := run_append_grow (P := P) w t ty e i z ht hi hz ⟨g, 0, none⟩ n cap xs hown.1 (hown.cells (g := g) rfl) ⟨b, off, none⟩ m c news hl hcells (by omega) (by omega) (growslice_fits (by omega) hbytes)
        exact ⟨_, _, hr, Apd.grow hown hbase z hzs news hl _ (grownCap_ge w (n + m) cap e) (grownCap_le_maxLen w (n + m) cap e h63)⟩

theorem bvs_str (s : ByteArray) : Lib.strCells s = bvs s.data.toList := rfl

/-- append of a string's bytes. -/
theorem run_append_str {t u e : TypeId} (T : SliceTy P t e (.int .u8 0) 1 1) (hu : P.underlying u = some .string) (ty : TypeId) {base : Nat}
    {v : Value} {n : Nat} {xs : List Value} (hown : w.ownsRow base e 1 v n xs) (s : ByteArray)
    (hbytes : n + s.size ≤ 140737488355328) (hbase : base ≤ w.heap.size) :
    ∃ v' w', (Builtin.append_ #[t, u] ty #[v, .string s]).run P w = .ok v' w' ∧ Apd base e 1 w v n xs w' v' (n + s.size) (xs ++ bvs s.data.toList) := by
  obtain ⟨ht, hinfo, hzs, hsz⟩ := T
  obtain ⟨i, hi, hz, hsize, hby⟩ := info_parts hinfo
  have h63 : n + s.size ≤ maxLen := by simp only [maxLen]; omega
  have hl : (bvs s.data.toList).length = s.size * 1 := by rw [bvs_length, Nat.mul_one]; rfl
  rw [← bvs_str] at hl ⊢
  rcases hown.2 with ⟨rfl, rfl⟩ | ⟨g, cap, cur, rfl, hbg, hg, hnc, hcm, hcs, htake⟩
  · have hx : xs = [] := List.eq_nil_of_length_eq_zero (by simpa using hown.1)
    subst hx
    by_cases hm : s.size = 0
    · have hn : Lib.strCells s = [] := List.eq_nil_of_length_eq_zero (by rw [Lib.strCells_length]; exact hm)
      refine ⟨.slice none 0 0, w, ?_, ⟨by rw [hm, hn]; exact World.ownsRow_nil w base e 1, World.ownsRow_nil w base e 1, World.grownBy.refl w _, .inl rfl⟩⟩
      have hf := Lib.run_firstCells_string (P := P) w 1 s
      rw [hm] at hf
      simp [Builtin.append_, run_underlying ht, run_underlying hu, sizeOf, typeInfo, hi, hsize, Builtin.lenOf, hm, hf]
    · have hr := run_append_nil_string (P := P) w t u ty e i (.int .u8 0) ht hu hi hz s (by omega) (by omega) (by rw [hby]; omega)
      have hgr := Apd.grow hown hbase (.int .u8 0) hzs (Lib.strCells s) hl (grownCap w s.size 0 e) (by have := grownCap_ge w s.size 0 e; omega) (grownCap_le_maxLen w s.size 0 e (by omega))
      simp only [Nat.zero_add, List.nil_append, Array.empty_append] at hgr ⊢
      have e1 : (s.data.map fun b => Value.int .u8 b.toNat) = (Lib.strCells s).toArray := by
        apply Array.ext'
        simp [Lib.strCells]
      rw [e1] at hr
      exact ⟨_, _, hr, hgr⟩
  · by_cases hroom : n + s.size ≤ cap
    · have hr := Lib.run_append_room_string (P := P) w t u ty e i ht hu hi hsize g n cap cur hg s hroom (by omega)
      have ha := Apd.room hown hbg hg hcm hnc hcs htake (Lib.strCells s) hl hroom
      rw [Lib.strCells_length, Nat.mul_one] at ha
      exact ⟨_, _, hr, ha⟩
    · have hr := Lib.run_append_grow_string (P := P) w t u ty e i (.int .u8 0) ht hu hi hz ⟨g, 0, none⟩ n cap xs (by rw [hsize]; exact hown.1) (hown.cells (g := g) rfl) s (by omega) (by omega) (by rw [hby]; exact growslice_fits (by omega) (by omega))
      exact ⟨_, _, hr, Apd.grow hown hbase (.int .u8 0) hzs (Lib.strCells s) hl _ (grownCap_ge w (n + s.size) cap e) (grownCap_le_maxLen w (n + s.size) cap e h63)⟩

theorem wp_append_run {o : Oper} {a : Act} {K : Act → World → Prop} {Q : Exit → Act → World → Prop} {t u : TypeId} (s x : Operand)
    (ho : o.op = .call { callee := .builtin .append, args := #[s, x], argTypes := #[t, u] }) {vs vx : Value} (hs : a.eval s = vs) (hx : a.eval x = vx)
    {R : Value → World → Prop} (hrun : ∃ v' w', (Builtin.append_ #[t, u] o.type #[vs, vx]).run P w = .ok v' w' ∧ R v' w')
    (h : ∀ v' w', R v' w' → K (a.put o.dst v') w') : o.wp P a w K Q := by
  obtain ⟨v', w', hrun, h2⟩ := hrun
  unfold Oper.wp execOp
  simp only [ho, resolve, invoke, builtin, Sem.run_bind, Sem.run_pure, Result.andThen_ok, List.map_toArray, List.map_cons, List.map_nil, hs, hx, hrun]
  exact h v' w' h2

/-- At the walk: an append, by a law on its run. -/
theorem wpList_append {ops : Array Oper} {rest : List Oper} {o : Oper} {a : Act} {Q : Exit → Act → World → Prop} (hgd : o.guard = none) {t u : TypeId} (s x : Operand)
    (ho : o.op = .call { callee := .builtin .append, args := #[s, x], argTypes := #[t, u] }) {vs vx : Value}
    {R : Value → World → Prop} (hrun : ∃ v' w', (Builtin.append_ #[t, u] o.type #[vs, vx]).run P w = .ok v' w' ∧ R v' w') (hs : a.eval s = vs) (hx : a.eval x = vx)
    (h : ∀ v' w', R v' w' → wpList P ops Q rest (a.put o.dst v') w') : wpList P ops Q (o :: rest) a w :=
  wpList_plain hgd fun _ hK => wp_append_run w s x ho hs hx hrun fun v' w' h2 => hK _ _ (h v' w' h2)
end

theorem own_more {w : World} {base base' : Nat} {e : TypeId} {size n : Nat} {v : Value} {xs : List Value} (h : w.ownsRow base' e size v n xs) (hb : base ≤ base') : w.ownsRow base e size v n xs := by
  refine ⟨h.1, ?_⟩
  rcases h.2 with h | ⟨g, cap, cur, hv, hg, r⟩
  · exact .inl h
  · exact .inr ⟨g, cap, cur, hv, Nat.le_trans hb hg, r⟩

/-- Elements in a block of their own, just made: what 'append(xs, x, y)' appends; a slice literal. -/
theorem Sl.new (w : World) (cs : Array Value) (t : TypeId) (n size : Nat) (h : cs.size = n * size) (hm : n ≤ maxLen) : Sl (w.alloc (.cells cs t)) (w.heap.size + 1) size (.slice (some ⟨w.heap.size, 0, none⟩) n n) n cs.toList :=
  ⟨by simpa using h, _, n, rfl, Nat.le_refl _, hm, (fun h => by cases h), fun _ => ⟨_, _, rfl, Nat.lt_succ_self _, fun j u hu => by
    rw [cell_of_row _ _ _ cs t (0, 0) (heap_alloc_new w _)]
    simpa using hu⟩⟩

/-- '[]byte(s)': the string's bytes in a new row. -/
theorem below_bytesWorld (w : World) (e : TypeId) (s : ByteArray) : Below w.heap.size w (Lib.bytesWorld w e s) :=
  ⟨rfl, rfl, rfl, by rw [Lib.bytesWorld_size]; omega, fun k hk => Lib.bytesWorld_at_old w e s k hk⟩
theorem Sl.bytesWorld (w : World) (e : TypeId) (s : ByteArray) (hs : s.size ≤ maxLen) : Sl (Lib.bytesWorld w e s) (w.heap.size + 1) 1 (.slice (some ⟨w.heap.size, 0, none⟩) s.size (grownCap w s.size 0 e)) s.size (bvs s.data.toList) := by
  refine ⟨by rw [bvs_length, Nat.mul_one]; rfl, _, _, rfl, grownCap_ge _ _ _ _, grownCap_le_maxLen _ _ _ _ hs, (fun h => by cases h), fun _ => ⟨_, _, rfl, Nat.lt_succ_self _, fun j u hu => ?_⟩⟩
  have hj : j < s.size := by
    have := (List.getElem?_eq_some_iff.1 hu).1
    rw [bvs_length] at this
    exact this
  rw [Nat.zero_add, Lib.bytesWorld_cell w e s j hj, ← hu]
  have hj' : j < s.data.toList.length := hj
  simp [bvs, u8v, List.getD, List.getElem?_eq_getElem hj']
theorem str_data (s : ByteArray) : s.data.toList.length = s.size := rfl

/-- 'string(b)' of bytes that lie in memory. -/
def strOf (bs : List UInt8) : ByteArray := ⟨bs.toArray⟩
theorem strOf_size (bs : List UInt8) : (strOf bs).size = bs.length := rfl
theorem conv_str {P : Program} {w : World} {B n : Nat} {v : Value} {bs : List UInt8} (h : Sl w B 1 v n (bvs bs)) {src dst e : TypeId} (hs : P.underlying src = some (.slice e)) (he : P.underlying e = some (.int .u8)) (hd : P.underlying dst = some .string) :
    (convert src dst v).run P w = .ok (.string (strOf bs)) w := by
  obtain ⟨hl, A, c, rfl, hnc, hcm, hA, hrd⟩ := h
  rw [bvs_length, Nat.mul_one] at hl
  have e0 : strOfNums (bs.map fun b => (b.toNat : Int)) = strOf bs := by
    unfold strOfNums strOf
    congr 2
    rw [List.map_map]
    conv => rhs; rw [← List.map_id bs]
    apply List.map_congr_left
    intro b _
    simp
  by_cases h0 : bs = []
  · subst h0
    have : n = 0 := by simpa using hl.symm
    subst this
    rcases A with _ | ⟨b, off, spot⟩
    · exact run_convert_bytes_nil w src e hs he 0 c dst hd
    · rw [run_convert_bytes_string w src dst e _ 0 c hs he hd]
      simp [Conv.bytesToString, loadCells, loadCellsFrom, strOf]
      rfl
  · have hne : bvs bs ≠ [] := by intro h; exact h0 (List.map_eq_nil_iff.1 h)
    obtain ⟨b, off, rfl, _, hc⟩ := hrd hne
    rw [run_convert_bytes_arg w src e hs he b off n c (bs.map fun b => (b.toNat : Int)) (by simpa using hl) ?_ dst hd, e0]
    intro i hi
    have hi' : i < bs.length := by omega
    rw [hc i (u8v bs[i]) (by simp [bvs, List.getElem?_eq_getElem hi'])]
    simp [u8v, List.getD, List.getElem?_eq_getElem hi']

/-- 's[:k]' and 's[k:]' of elements of one cell. -/
theorem Sl.to {w : World} {B n c k : Nat} {A : Option Addr} {xs : List Value} (h : Sl w B 1 (.slice A n c) n xs) (hk : k ≤ n) : Sl w B 1 (.slice A k c) k (xs.take k) := by
  obtain ⟨hl, A', c', hv, h1, h2, h3, hr⟩ := h
  injection hv with e1 _ e2
  subst e1 e2
  exact ⟨by simp; omega, _, _, rfl, by omega, h2, h3, hr.take k⟩
theorem Sl.from_ {w : World} {B n c k : Nat} {A : Option Addr} {xs : List Value} (h : Sl w B 1 (.slice A n c) n xs) (hk : k ≤ n) (hc : c ≠ k) : Sl w B 1 (.slice (A.map fun x => x.add k) (n - k) (c - k)) (n - k) (xs.drop k) := by
  obtain ⟨hl, A', c', hv, h1, h2, h3, hr⟩ := h
  injection hv with e1 _ e2
  subst e1 e2
  refine ⟨by simp; omega, _, _, rfl, by omega, by omega, (fun h => by
    have : A = none := by cases A <;> simp_all
    have := h3 this
    omega), fun hn => ?_⟩
  obtain ⟨b, off, e, hb, hcell⟩ := hr.drop k hn
  rcases A with _ | ⟨b', off', spot'⟩
  · simp at e
  · obtain ⟨b2, off2, e2, hb2, hc2⟩ := hr (by intro h; subst h; simp at hn)
    injection e2 with e2
    injection e2 with e3 e4 e5
    subst e3 e4 e5
    refine ⟨b', off' + k, ?_, hb2, fun j u hu => ?_⟩
    · simp [Addr.add_lit]
    · have := hc2 (k + j) u (by rw [← hu, List.getElem?_drop])
      rw [Nat.add_assoc]; exact this
theorem Sl.from_end {w : World} {B n c k : Nat} {A : Option Addr} {xs : List Value} (h : Sl w B 1 (.slice A n c) n xs) (hk : k ≤ n) (hc : c = k) : Sl w B 1 (.slice A (n - k) (c - k)) (n - k) (xs.drop k) := by
  obtain ⟨hl, A', c', hv, h1, h2, h3, hr⟩ := h
  injection hv with e1 _ e2
  subst e1 e2
  have : xs.drop k = [] := List.drop_eq_nil_of_le (by omega)
  rw [this]
  exact ⟨by simp; omega, _, _, rfl, by omega, by omega, (fun h => by omega), Rd.nil⟩
theorem bvs_take (bs : List UInt8) (k : Nat) : (bvs bs).take k = bvs (bs.take k) := by simp [bvs, List.map_take]
theorem bvs_drop (bs : List UInt8) (k : Nat) : (bvs bs).drop k = bvs (bs.drop k) := by simp [bvs, List.map_drop]
end Go.Proofs.YtoahnhphfabajaaGreat
namespace Go.Proofs.YtoahnhphfabajaaGreat
set_option maxRecDepth 10000
open Go.RowKit
set_option linter.unusedVariables false
set_option linter.unusedSimpArgs false
set_option linter.unnecessarySimpa false

theorem T8 : SliceTy Tryz.prog 129 5 (.int .u8 0) 1 1 := ⟨Tryz.underlying129, by kernel_rfl, rfl, by omega⟩

set_option maxHeartbeats 400000 in
theorem Clone_any (v : Value) (n : Nat) (bs : List Value) (h1 : ∀ u ∈ bs, u.oneCell' = true) (w : World) (h : Sl w w.heap.size 1 v n bs) (hn : n ≤ 140737488355328) :
    Calls Tryz.prog 81 #[v] w fun e w' => ∃ v', e = .returned v' ∧ w'.ownsRow w.heap.size 5 1 v' n bs ∧ Below w.heap.size w w' := by
  have h' := h
  obtain ⟨hl, A, c, rfl, hnc, hcm, hA, hrd⟩ := h
  have hnil := fun w => Lib.run_eql_slice_nil (P := Tryz.prog) w 129 5 A n c 0 0 Tryz.underlying129
  rcases A with _ | ad
  · have := hA rfl
    subst this
    have : n = 0 := by omega
    subst this
    have : bs = [] := List.eq_nil_of_length_eq_zero (by omega)
    subst this
    go_enter Tryz.func81, Tryz.ntmps81
    go_wp2_with fail
    go_ret
    exact ⟨_, rfl, World.ownsRow_nil _ _ _ _, Below.refl _ _⟩
  · have hown : (w.alloc (.cells #[] 5)).ownsRow w.heap.size 5 1 (.slice (some ⟨w.heap.size, 0, none⟩) 0 0) 0 [] :=
      World.ownsRow_made w #[] 0 (Nat.le_refl _) (Nat.zero_le _) (by simp)
    go_enter Tryz.func81, Tryz.ntmps81
    go_wp2_with (at_builtin; refine wpList_append _ rfl (.tmp 5) (.tmp 6) rfl (run_append_rd _ T8 _ hown (h'.alloc (Nat.le_refl _) _) h1 (by simp only [maxLen]; omega) (by omega) (by simp)) rfl rfl ?_; intro v' w' ap)
    go_ret
    exact ⟨v', rfl, by simpa using ap.own, ap.below ((Below.refl _ _).alloc (Nat.le_refl _) _) hown (Nat.le_refl _) (by simp)⟩

theorem Grow_none (w : World) : Calls Tryz.prog 103 #[.slice none 0 0, .int .i64 0] w fun e w' => e = .returned (.slice none 0 0) ∧ w = w' := by
  go_enter Tryz.func103, Tryz.ntmps103
  go_wp2_with fail
  go_ret
  exact ⟨rfl, rfl⟩

set_option maxRecDepth 10000 in
set_option maxHeartbeats 400000 in
theorem Grow_some (n : Nat) (h0 : 0 < n) (hn : n ≤ 140737488355328) (w : World) :
    Calls Tryz.prog 103 #[.slice none 0 0, .int .i64 n] w fun e w' => ∃ v', e = .returned v' ∧ w'.ownsRow w.heap.size 5 1 v' 0 [] ∧ Below w.heap.size w w' := by
  obtain ⟨i0, hi0, hz0, hz1, hz2⟩ := info_parts T8.info
  have hgz := Lib.run_append_nil_zeros (P := Tryz.prog) w 129 3 129 5 i0 (.int .u8 0) .i64 .i64 Tryz.underlying129 Tryz.underlying3 hi0 hz0 n h0 (by omega) (by omega) (by rw [hz2]; omega)
  go_enter Tryz.func103, Tryz.ntmps103
  go_wp2_with (at_builtin; refine wpList_append _ rfl (.tmp 20) (.tmp 21) rfl (R := fun v' w' => _ = v' ∧ _ = w') ⟨_, _, hgz, rfl, rfl⟩ rfl rfl ?_; rintro v' w' ⟨rfl, rfl⟩)
  go_ret
  refine ⟨.slice (some ⟨w.heap.size, 0, none⟩) 0 (grownCap w n 0 5), rfl, ?_, ((Below.refl _ _).alloc (Nat.le_refl _) _).drew⟩
  refine (World.ownsRow_made w _ _ (Nat.le_refl _) (grownCap_le_maxLen w n 0 _ (by simp only [maxLen]; omega)) ?_).drew
  have := grownCap_ge w n 0 5
  have hc : (#[Value.int IntKind.u8 0] : Array Value).size = 1 := rfl
  simp only [Array.size_append, size_zeroCells, hc]
  omega

/-- The parts of a row of byte slices. -/
def flat (ls : List (Value × List UInt8)) : List UInt8 := ls.flatMap (·.2)
theorem flat_snoc (ls : List (Value × List UInt8)) (k : Nat) (h : k < ls.length) : flat (ls.take (k + 1)) = flat (ls.take k) ++ (ls[k]).2 := by
  unfold flat
  rw [List.take_succ_eq_append_getElem h, List.flatMap_append]
  simp

theorem flat_le (ls : List (Value × List UInt8)) (k : Nat) : (flat (ls.take k)).length ≤ (flat ls).length := by
  conv => rhs; rw [← List.take_append_drop k ls]
  unfold flat
  rw [List.flatMap_append, List.length_append]
  omega

set_option maxHeartbeats 1000000 in
theorem Concat_any (v : Value) (ls : List (Value × List UInt8)) (w : World) (hv : Sl w w.heap.size 1 v ls.length (ls.map (·.1)))
    (h : ∀ p ∈ ls, Sl w w.heap.size 1 p.1 p.2.length (bvs p.2)) (hn : (flat ls).length ≤ 1000000000000) (hl : ls.length ≤ 1000000) :
    Calls Tryz.prog 84 #[v] w fun e w' => ∃ v', e = .returned v' ∧ w'.ownsRow w.heap.size 5 1 v' (flat ls).length (bvs (flat ls)) ∧ Below w.heap.size w w' := by
  obtain ⟨hlen, A, c, rfl, hnc, hcm, hA, hrd⟩ := hv
  go_enter Tryz.func84, Tryz.ntmps84
  go_wp2_with fail
  go_loop [3, 11] (fun s i => ∃ k : Nat, k ≤ ls.length ∧ i = .int .i64 k ∧ s = .int .i64 (flat (ls.take k)).length) (fun _ i => ls.length - (intOf i).toNat)
  case atStart => exact ⟨0, by omega, rfl, by simp [flat]⟩
  case round =>
    obtain ⟨k, hk, rfl, rfl⟩ := hrel
    by_cases hlt : k < ls.length
    · obtain ⟨b, off, rfl, hb, hcell⟩ := hrd.at_ (k := k) (by simpa using hlt)
      have hsl := h _ (List.getElem_mem hlt)
      obtain ⟨hl2, A2, c2, hv2, hn2, hc2, _, _⟩ := hsl
      rw [List.getElem_map, hv2] at hcell
      clear hv2
      have e := flat_snoc ls k hlt
      have hle := flat_le ls (k + 1)
      rw [e, List.length_append] at hle
      go_wp2_with fail
      go_round
      case rel => exact ⟨k + 1, by omega, by go_num, by rw [e, List.length_append]; go_num⟩
      case measure => simp [intOf]; omega
    · have : k = ls.length := by omega
      subst this
      rw [List.take_length]
      have G : ∀ W : World, Calls Tryz.prog 103 #[.slice none 0 0, .int .i64 ((flat ls).length : Nat)] W fun e w' => ∃ v', e = .returned v' ∧ w'.ownsRow W.heap.size 5 1 v' 0 [] ∧ Below W.heap.size W w' := by
        intro W
        rcases Nat.eq_zero_or_pos (flat ls).length with h0 | h0
        · rw [h0]
          exact (Grow_none W).mono fun e w' ⟨he, hw⟩ => ⟨_, he, by subst hw; exact World.ownsRow_nil _ _ _ _, by subst hw; exact Below.refl _ _⟩
        · exact Grow_some _ h0 (by omega) W
      go_wp2_with fail
      refine (G _).mono ?_
      rintro e w1 ⟨v1, rfl, own1, bel1⟩
      clear G
      go_wp2_with fail
      go_loopw [6, 27] (fun v i wr => ∃ k : Nat, k ≤ ls.length ∧ i = .int .i64 k ∧ wr.ownsRow w.heap.size 5 1 v (flat (ls.take k)).length (bvs (flat (ls.take k))) ∧ Below w.heap.size w wr) (fun _ i _ => ls.length - (intOf i).toNat)
      case atStart => exact ⟨0, by omega, rfl, by simpa [flat, bvs] using own1, bel1⟩
      case round =>
        obtain ⟨k, hk', rfl, hown, hbel⟩ := hrel
        have hs := hbel.size
        by_cases hlt : k < ls.length
        · have hcell := hrd.at_ (k := k) (by simpa using hlt)
          obtain ⟨b, off, rfl, hb, hcell⟩ := hcell
          rw [← hbel.cell (p := ⟨b, off + k, none⟩) hb] at hcell
          have hsl := (h _ (List.getElem_mem hlt)).below hbel
          rw [List.getElem_map] at hcell
          have e := flat_snoc ls k hlt
          have hle := flat_le ls (k + 1)
          rw [e, List.length_append] at hle
          obtain ⟨pv, hpv⟩ : ∃ pv, pv = ls[k].1 := ⟨_, rfl⟩
          rw [← hpv] at hcell hsl
          clear hpv
          go_wp2_with (at_builtin; refine wpList_append _ rfl (.tmp 31) (.tmp 32) rfl (run_append_rd _ T8 _ hown hsl (bvs_one _) (by simp only [maxLen]; omega) (by omega) hs) rfl rfl ?_; intro v' w' ap)
          go_roundw
          case rel =>
            refine ⟨k + 1, by omega, by go_num, ?_, ap.below hbel hown (Nat.le_refl _) hs⟩
            rw [e, List.length_append, bvs_append]
            exact ap.own
          case measure => simp [intOf]; omega
        · have : k = ls.length := by omega
          subst this
          rw [List.take_length] at hown
          go_wp2_with fail
          go_ret
          exact ⟨_, rfl, hown, hbel⟩
end Go.Proofs.YtoahnhphfabajaaGreat
namespace Go.Proofs.YtoahnhphfabajaaGreat
set_option maxRecDepth 10000
open Go.RowKit
set_option linter.unusedVariables false
set_option linter.unusedSimpArgs false
set_option linter.unnecessarySimpa false

/-- The k-th byte of a number, the lowest first. -/
def byteAt (n : Int) (k : Nat) : UInt8 := UInt8.ofNat (IntKind.u64.wrap n / 2 ^ (8 * k) % 256).toNat
theorem u8v_ofNat (x : Int) (h0 : 0 ≤ x) (h1 : x < 256) : u8v (UInt8.ofNat x.toNat) = .int .u8 x := by
  unfold u8v
  rw [UInt8.toNat_ofNat', Nat.mod_eq_of_lt (by omega), Int.toNat_of_nonneg h0]
theorem u8v_byteAt (n : Int) (k : Nat) : Value.int .u8 (IntKind.u64.wrap n / 2 ^ (8 * k) % 256) = u8v (byteAt n k) := by
  unfold byteAt
  rw [u8v_ofNat _ (by omega) (by omega)]
theorem range_step (f : Nat → UInt8) (k : Nat) : (List.range (k + 1)).map f = (List.range k).map f ++ [f k] := by rw [List.range_succ]; simp
def le8 (n : Int) : List UInt8 := (List.range 8).map (byteAt n)

set_option maxHeartbeats 400000 in
theorem Int_any (v : Value) (m : Nat) (bs : List UInt8) (n : Int) (w : World) (h : Sl w w.heap.size 1 v m (bvs bs)) (hm : m ≤ 1000000000) :
    Calls Tryz.prog 55 #[v, .int .i64 n] w fun e w' => ∃ v', e = .returned v' ∧ w'.ownsRow w.heap.size 5 1 v' (m + 8) (bvs (bs ++ le8 n)) ∧ Below w.heap.size w w' := by
  go_enter Tryz.func55, Tryz.ntmps55
  go_wp2_with fail
  refine (Clone_any v m (bvs bs) (bvs_one _) _ h (by omega)).mono ?_
  rintro e w1 ⟨v1, rfl, own1, bel1⟩
  go_wp2_with fail
  go_loopw [5, 9] (fun v i wr => ∃ k : Nat, k ≤ 8 ∧ i = .int .i64 k ∧ wr.ownsRow w.heap.size 5 1 v (m + k) (bvs (bs ++ (List.range k).map (byteAt n))) ∧ Below w.heap.size w wr) (fun _ i _ => 8 - (intOf i).toNat)
  case atStart => exact ⟨0, by omega, rfl, by simpa using own1, bel1⟩
  case round =>
    obtain ⟨k, hk, rfl, hown, hbel⟩ := hrel
    have hs := hbel.size
    by_cases hlt : k < 8
    · go_wp2_with (at_builtin; refine wpList_append _ rfl (.tmp 12) (.tmp 19) rfl (run_append_rd _ T8 _ (hown.alloc _) (Sl.new wr _ _ 1 1 rfl (by simp [maxLen])) (by intro u hu; simp at hu; subst hu; rfl) (by simp only [maxLen]; omega) (by omega) (by simp; omega)) rfl rfl ?_; intro v' w' ap)
      go_roundw
      case rel =>
        refine ⟨k + 1, by omega, by go_num, ?_, ap.below (hbel.alloc hs _) (hown.alloc _) (Nat.le_refl _) (by simp; omega)⟩
        rw [range_step, ← List.append_assoc, bvs_append]
        have := ap.own
        rw [u8v_byteAt] at this
        exact this
      case measure => simp [intOf]; omega
    · have : k = 8 := by omega
      subst this
      go_wp2_with fail
      refine (Clone_any _ _ _ (bvs_one _) _ (Sl.of_own hown) (by omega)).mono ?_
      rintro e w2 ⟨v2, rfl, own2, bel2⟩
      go_wp2_with fail
      go_ret
      exact ⟨v2, rfl, own_more own2 hs, hbel.trans (bel2.mono hs)⟩

/-- The lowest byte of a number. -/
def byte1 (n : Int) : UInt8 := UInt8.ofNat (n % 256).toNat
theorem u8v_byte1 (n : Int) : Value.int .u8 (n % 256) = u8v (byte1 n) := by
  unfold byte1
  rw [u8v_ofNat _ (by omega) (by omega)]

theorem Sl.cast {w : World} {B size n : Nat} {v : Value} {xs ys : List Value} (h : Sl w B size v n xs) (e : xs = ys) : Sl w B size v n ys := e ▸ h
theorem own_cast {w : World} {base : Nat} {e : TypeId} {size n m : Nat} {v : Value} {xs ys : List Value} (h : w.ownsRow base e size v n xs) (hn : n = m) (hx : xs = ys) : w.ownsRow base e size v m ys := hn ▸ hx ▸ h

set_option maxHeartbeats 400000 in
theorem Byte_any (v : Value) (bs : List UInt8) (n : Int) (w : World) (h : Sl w w.heap.size 1 v bs.length (bvs bs)) (hm : bs.length ≤ 1000000000) :
    Calls Tryz.prog 73 #[v, .int .i64 n] w fun e w' => ∃ v', e = .returned v' ∧ w'.ownsRow w.heap.size 5 1 v' (bs.length + 1) (bvs (bs ++ [byte1 n])) ∧ Below w.heap.size w w' := by
  have h' := h
  obtain ⟨hlen, A, c, rfl, hnc, hcm, hA, hrd⟩ := h
  go_enter Tryz.func73, Tryz.ntmps73
  go_wp2_with fail
  have s1 := (h'.alloc (Nat.le_refl _) (.cells #[.int .u8 (n % 256)] 5)).alloc (by simp) (.cells #[.slice A bs.length c, .slice (some ⟨w.heap.size, 0, none⟩) 1 1] 129)
  have s2 := (Sl.new w #[.int .u8 (n % 256)] 5 1 1 rfl (by simp [maxLen])).alloc (by simp) (.cells #[.slice A bs.length c, .slice (some ⟨w.heap.size, 0, none⟩) 1 1] 129)
  have s3 := Sl.new (w.alloc (.cells #[.int .u8 (n % 256)] 5)) #[.slice A bs.length c, .slice (some ⟨w.heap.size, 0, none⟩) 1 1] 129 2 1 rfl (by simp [maxLen])
  simp only [World.size_alloc] at s3
  refine (Concat_any _ [(.slice A bs.length c, bs), (.slice (some ⟨w.heap.size, 0, none⟩) 1 1, [byte1 n])] _ (s3.more (by simp)) ?_ (by simp [flat]; omega) (by simp)).mono ?_
  · intro p hp
    simp at hp
    rcases hp with rfl | rfl
    · exact s1.more (by simp <;> omega)
    · exact (s2.cast (by rw [u8v_byte1]; rfl)).more (by simp)
  rintro e w1 ⟨v1, rfl, own1, bel1⟩
  go_wp2_with fail
  go_ret
  exact ⟨_, rfl, own_more (own_cast own1 (by simp [flat]) (by simp [flat])) (by simp <;> omega), (((Below.refl _ _).alloc (Nat.le_refl _) _).alloc (by simp) _).trans (bel1.mono (by simp <;> omega))⟩

/-- The text as it is written: at most 65535 bytes. -/
def cutText (s : List UInt8) : List UInt8 := s.take 65535
def textBytes (s : List UInt8) : List UInt8 := [byte1 (cutText s).length, byte1 ((cutText s).length / 256)] ++ cutText s

set_option maxHeartbeats 1000000 in
theorem Text_any (v : Value) (bs : List UInt8) (s : ByteArray) (w : World) (h : Sl w w.heap.size 1 v bs.length (bvs bs)) (hm : bs.length ≤ 1000000000) (hs : s.size ≤ maxLen) :
    Calls Tryz.prog 74 #[v, .string s] w fun e w' => ∃ v', e = .returned v' ∧ w'.ownsRow w.heap.size 5 1 v' (bs ++ textBytes s.data.toList).length (bvs (bs ++ textBytes s.data.toList)) ∧ Below w.heap.size w w' := by
  have h' := h
  unfold maxLen at hs
  obtain ⟨hlen, A, c, rfl, hnc, hcm, hA, hrd⟩ := h
  -- what stands behind the cut, whatever it is
  have key : ∀ (t : ByteArray) (m : Nat) (x y : Int) (W : World), t.size = m → t.data.toList = cutText s.data.toList → Value.int .u8 x = u8v (byte1 t.size) → Value.int .u8 y = u8v (byte1 (t.size / 256)) →
      W = (Lib.bytesWorld (w.alloc (.cells #[.int .u8 x, .int .u8 y] 5)) 5 t).alloc (.cells #[.slice A bs.length c, .slice (some ⟨w.heap.size, 0, none⟩) 2 2, .slice (some ⟨w.heap.size + 1, 0, none⟩) m (grownCap (w.alloc (.cells #[.int .u8 x, .int .u8 y] 5)) m 0 5)] 129) →
      Calls Tryz.prog 84 #[.slice (some ⟨w.heap.size + 2, 0, none⟩) 3 3] W fun e w' => ∃ v', e = .returned v' ∧ w'.ownsRow w.heap.size 5 1 v' (bs ++ textBytes s.data.toList).length (bvs (bs ++ textBytes s.data.toList)) ∧ Below w.heap.size w w' := by
    intro t m x y W hm ht hx hy hW
    subst hW hm
    have htl : t.size = (cutText s.data.toList).length := by rw [← ht]; rfl
    have htm : t.size ≤ 65535 := by rw [htl]; simp [cutText]; omega
    have b1 := below_bytesWorld (w.alloc (.cells #[.int .u8 x, .int .u8 y] 5)) 5 t
    have s1 := (h'.alloc (Nat.le_refl _) (.cells #[.int .u8 x, .int .u8 y] 5)).below_le b1 (by simp)
    have s2 := (Sl.new w #[.int .u8 x, .int .u8 y] 5 2 1 rfl (by simp [maxLen])).below_le b1 (by simp)
    have s3 := Sl.bytesWorld (w.alloc (.cells #[.int .u8 x, .int .u8 y] 5)) 5 t (by simp only [maxLen]; omega)
    have hsz : (Lib.bytesWorld (w.alloc (.cells #[.int .u8 x, .int .u8 y] 5)) 5 t).heap.size = w.heap.size + 2 := by rw [Lib.bytesWorld_size]; simp
    have bel : Below w.heap.size w (Lib.bytesWorld (w.alloc (.cells #[.int .u8 x, .int .u8 y] 5)) 5 t) := ((Below.refl _ _).alloc (Nat.le_refl _) _).trans (b1.mono (by simp))
    generalize Lib.bytesWorld (w.alloc (.cells #[.int .u8 x, .int .u8 y] 5)) 5 t = W1 at *
    generalize grownCap (w.alloc (.cells #[.int .u8 x, .int .u8 y] 5)) t.size 0 5 = cc at *
    simp only [World.size_alloc] at s3
    have s4 := Sl.new W1 #[.slice A bs.length c, .slice (some ⟨w.heap.size, 0, none⟩) 2 2, .slice (some ⟨w.heap.size + 1, 0, none⟩) t.size cc] 129 3 1 rfl (by simp [maxLen])
    have e2 : textBytes s.data.toList = [byte1 t.size, byte1 (t.size / 256)] ++ t.data.toList := by rw [textBytes, ← htl, ht]
    rw [hsz] at s4
    refine (Concat_any _ [(.slice A bs.length c, bs), (.slice (some ⟨w.heap.size, 0, none⟩) 2 2, [byte1 t.size, byte1 (t.size / 256)]), (.slice (some ⟨w.heap.size + 1, 0, none⟩) t.size cc, t.data.toList)] _ (s4.more (by simp [hsz])) ?_ (by simp [flat]; omega) (by simp)).mono ?_
    · intro p hp
      simp at hp
      rcases hp with rfl | rfl | rfl
      · exact (s1.alloc (by omega) _).more (by simp [hsz] <;> omega)
      · exact ((s2.cast (by rw [hx, hy]; rfl)).alloc (by omega) _).more (by simp [hsz] <;> omega)
      · exact (s3.alloc (by omega) _).more (by simp [hsz] <;> omega)
    rintro e w1 ⟨v1, rfl, own1, bel1⟩
    rw [e2]
    exact ⟨_, rfl, own_more (own_cast own1 (by simp [flat]) (by simp [flat])) (by simp [hsz] <;> omega), (bel.alloc (by omega) _).trans (bel1.mono (by simp [hsz] <;> omega))⟩
  have hcv := fun (W : World) (s : ByteArray) => Lib.run_convert_string_bytes (P := Tryz.prog) W 9 129 5 s Tryz.underlying9 Tryz.underlying129 Tryz.underlying5
  have hbz := fun (W : World) (s : ByteArray) => Lib.bytesWorld_size W 5 s
  by_cases hbig : 65535 < s.size
  · have hmin : min 65535 s.size = 65535 := by omega
    have KEY := Lib.hid (key (s.extract 0 65535) 65535 255 255 _ (by simp [hmin]) (by simp [cutText]) (by simp only [ByteArray.size_extract, hmin]; rfl) (by simp only [ByteArray.size_extract, hmin]; rfl) rfl)
    clear key
    go_enter Tryz.func74, Tryz.ntmps74
    go_wp2_with fail
    refine KEY.out.mono ?_
    rintro e w1 ⟨v1, rfl, own1, bel1⟩
    go_wp2_with fail
    go_ret
    exact ⟨_, rfl, own1, bel1⟩
  · have hcut : cutText s.data.toList = s.data.toList := by unfold cutText; rw [List.take_of_length_le]; rw [str_data]; omega
    have KEY := Lib.hid (key s s.size (↑s.size % 256) (↑s.size / 256) _ rfl hcut.symm (by rw [u8v_byte1]) (by rw [← u8v_byte1]; congr 1; omega) rfl)
    clear key hcut
    go_enter Tryz.func74, Tryz.ntmps74
    go_wp2_with fail
    refine KEY.out.mono ?_
    rintro e w1 ⟨v1, rfl, own1, bel1⟩
    go_wp2_with fail
    go_ret
    exact ⟨_, rfl, own1, bel1⟩
end Go.Proofs.YtoahnhphfabajaaGreat
namespace Go.Proofs.YtoahnhphfabajaaGreat
set_option maxRecDepth 10000
open Go.RowKit
set_option linter.unusedVariables false
set_option linter.unusedSimpArgs false
set_option linter.unnecessarySimpa false

set_option maxHeartbeats 400000 in
theorem RInt_any (base : Nat) (v : Value) (bs : List UInt8) (n : Int) (w : World) (h : w.ownsRow base 5 1 v bs.length (bvs bs)) (hb : base ≤ w.heap.size) (hm : bs.length ≤ 1000000000) :
    Calls Tryz.prog 96 #[v, .int .i64 n] w fun e w' => ∃ v', e = .returned v' ∧ Apd base 5 1 w v bs.length (bvs bs) w' v' (bs.length + 8) (bvs (bs ++ le8 n)) := by
  go_enter Tryz.func96, Tryz.ntmps96
  go_wp2_with fail
  go_loopw [0, 5] (fun v' i wr => ∃ k : Nat, k ≤ 8 ∧ i = .int .i64 k ∧ Apd base 5 1 w v bs.length (bvs bs) wr v' (bs.length + k) (bvs (bs ++ (List.range k).map (byteAt n)))) (fun _ i _ => 8 - (intOf i).toNat)
  case atStart => exact ⟨0, by omega, rfl, by simpa using Apd.refl h⟩
  case round =>
    obtain ⟨k, hk, rfl, ap⟩ := hrel
    have hs := ap.grown.size
    by_cases hlt : k < 8
    · go_wp2_with (at_builtin; refine wpList_append _ rfl (.tmp 10) (.tmp 18) rfl (run_append_rd _ T8 _ (ap.own.alloc _) (Sl.new wr _ _ 1 1 rfl (by simp [maxLen])) (by intro u hu; simp at hu; subst hu; rfl) (by simp only [maxLen]; omega) (by omega) (by simp; omega)) rfl rfl ?_; intro v' w' ap2)
      go_roundw
      case rel =>
        refine ⟨k + 1, by omega, by go_num, ?_⟩
        rw [range_step, ← List.append_assoc, bvs_append, ← Nat.add_assoc]
        have := Apd.trans (by omega) ap (World.grownBy_alloc _ _ none) ap2 (by omega) (by rw [bvs_append, Nat.mul_one, ← bvs_length, List.take_left])
        simp only [u8v_byteAt] at this
        exact this
      case measure => simp [intOf]; omega
    · have : k = 8 := by omega
      subst this
      go_wp2_with fail
      go_ret
      exact ⟨_, rfl, ap⟩

set_option maxHeartbeats 400000 in
theorem RByte_any (base : Nat) (v : Value) (bs : List UInt8) (n : Int) (w : World) (h : w.ownsRow base 5 1 v bs.length (bvs bs)) (hb : base ≤ w.heap.size) (hm : bs.length ≤ 1000000000) :
    Calls Tryz.prog 113 #[v, .int .i64 n] w fun e w' => ∃ v', e = .returned v' ∧ Apd base 5 1 w v bs.length (bvs bs) w' v' (bs.length + 1) (bvs (bs ++ [byte1 n])) := by
  go_enter Tryz.func113, Tryz.ntmps113
  go_wp2_with (at_builtin; refine wpList_append _ rfl (.tmp 5) (.tmp 8) rfl (run_append_rd _ T8 _ (h.alloc _) (Sl.new w _ _ 1 1 rfl (by simp [maxLen])) (by intro u hu; simp at hu; subst hu; rfl) (by simp only [maxLen]; omega) (by omega) (by simp; omega)) rfl rfl ?_; intro v' w' ap2)
  go_ret
  refine ⟨_, rfl, ?_⟩
  have := Apd.trans (by omega) (Apd.refl h) (World.grownBy_alloc _ _ none) ap2 (by omega) (by rw [Nat.mul_one, ← bvs_length, List.take_length])
  simp only [u8v_byte1] at this
  rw [bvs_append]
  exact this

theorem RText_end {base : Nat} {v v1 v2 : Value} {bs : List UInt8} {s t : ByteArray} {w w1 w2 : World} {x y : Int} (h : w.ownsRow base 5 1 v bs.length (bvs bs))
    (ap1 : Apd base 5 1 (w.alloc (.cells #[.int .u8 x, .int .u8 y] 5)) v bs.length (bvs bs) w1 v1 (bs.length + 2) (bvs bs ++ [.int .u8 x, .int .u8 y]))
    (ap2 : Apd base 5 1 w1 v1 (bs.length + 2) (bvs bs ++ [.int .u8 x, .int .u8 y]) w2 v2 (bs.length + 2 + t.size) (bvs bs ++ [.int .u8 x, .int .u8 y] ++ bvs t.data.toList))
    (ht : t.data.toList = cutText s.data.toList) (hx : Value.int .u8 x = u8v (byte1 t.size)) (hy : Value.int .u8 y = u8v (byte1 (t.size / 256))) :
    Apd base 5 1 w v bs.length (bvs bs) w2 v2 (bs.length + (textBytes s.data.toList).length) (bvs (bs ++ textBytes s.data.toList)) := by
  have e2 : textBytes s.data.toList = [byte1 t.size, byte1 (t.size / 256)] ++ t.data.toList := by rw [textBytes, ← ht]; rfl
  have a1 := Apd.trans (by omega) (Apd.refl h) (World.grownBy_alloc _ _ none) ap1 (by omega) (by rw [Nat.mul_one, ← bvs_length, List.take_length])
  have a2 := Apd.trans (by omega) a1 (World.grownBy.refl _ none) ap2 (by omega) (by rw [Nat.mul_one, ← bvs_length, List.take_left])
  rw [hx, hy] at a2
  rw [e2]
  have e3 : bs.length + ([byte1 t.size, byte1 (t.size / 256)] ++ t.data.toList).length = bs.length + 2 + t.size := by
    simp only [List.length_append, List.length_cons, List.length_nil, str_data]; omega
  rw [e3]
  have e4 : bvs (bs ++ ([byte1 t.size, byte1 (t.size / 256)] ++ t.data.toList)) = bvs bs ++ [u8v (byte1 t.size), u8v (byte1 (t.size / 256))] ++ bvs t.data.toList := by
    rw [bvs_append, bvs_append, ← List.append_assoc]; rfl
  rw [e4]
  exact a2

set_option maxHeartbeats 1000000 in
theorem RText_any (base : Nat) (v : Value) (bs : List UInt8) (s : ByteArray) (w : World) (h : w.ownsRow base 5 1 v bs.length (bvs bs)) (hb : base ≤ w.heap.size) (hm : bs.length ≤ 1000000000) (hs : s.size ≤ maxLen) :
    Calls Tryz.prog 112 #[v, .string s] w fun e w' => ∃ v', e = .returned v' ∧ Apd base 5 1 w v bs.length (bvs bs) w' v' (bs.length + (textBytes s.data.toList).length) (bvs (bs ++ textBytes s.data.toList)) := by
  unfold maxLen at hs
  by_cases hbig : 65535 < s.size
  · have hmin : min 65535 s.size = 65535 := by omega
    go_enter Tryz.func112, Tryz.ntmps112
    go_wp2_with (first | (at_builtin; refine wpList_append _ rfl (.tmp 10) (.tmp 18) rfl (run_append_rd _ T8 _ (h.alloc _) (Sl.new w _ _ 2 1 rfl (by simp [maxLen])) (by intro u hu; simp at hu; rcases hu with rfl | rfl <;> rfl) (by simp only [maxLen]; omega) (by omega) (by simp; omega)) rfl rfl ?_; intro v1 w1 ap1; have hs1 := ap1.grown.size) | (at_builtin; refine wpList_append _ rfl (.tmp 19) (.tmp 20) rfl (run_append_str _ T8 Tryz.underlying9 _ ap1.own (s.extract 0 65535) (by simp only [ByteArray.size_extract, hmin]; omega) (by simp at hs1; omega)) rfl rfl ?_; intro v2 w2 ap2))
    go_ret
    exact ⟨_, rfl, RText_end (t := s.extract 0 65535) h ap1 ap2 (by simp [cutText]) (by simp only [ByteArray.size_extract, hmin]; rfl) (by simp only [ByteArray.size_extract, hmin]; rfl)⟩
  · go_enter Tryz.func112, Tryz.ntmps112
    go_wp2_with (first | (at_builtin; refine wpList_append _ rfl (.tmp 10) (.tmp 18) rfl (run_append_rd _ T8 _ (h.alloc _) (Sl.new w _ _ 2 1 rfl (by simp [maxLen])) (by intro u hu; simp at hu; rcases hu with rfl | rfl <;> rfl) (by simp only [maxLen]; omega) (by omega) (by simp; omega)) rfl rfl ?_; intro v1 w1 ap1; have hs1 := ap1.grown.size) | (at_builtin; refine wpList_append _ rfl (.tmp 19) (.tmp 20) rfl (run_append_str _ T8 Tryz.underlying9 _ ap1.own s (by omega) (by simp at hs1; omega)) rfl rfl ?_; intro v2 w2 ap2))
    go_ret
    have hcut : cutText s.data.toList = s.data.toList := by unfold cutText; rw [List.take_of_length_le]; rw [str_data]; omega
    exact ⟨_, rfl, RText_end h ap1 ap2 hcut.symm (by rw [u8v_byte1]) (by rw [← u8v_byte1]; congr 1; omega)⟩
end Go.Proofs.YtoahnhphfabajaaGreat
namespace Go.Proofs.YtoahnhphfabajaaGreat
set_option maxRecDepth 10000
open Go.RowKit
set_option linter.unusedVariables false
set_option linter.unusedSimpArgs false

/-- From w to w' no block has turned but those of L, and new ones. -/
structure Turns (L : List Nat) (w w' : World) : Prop where
  os : w'.os = w.os
  tape : w'.tape = w.tape
  output : w'.output = w.output
  size : w.heap.size ≤ w'.heap.size
  block : ∀ k, k < w.heap.size → k ∉ L → w'.heap[k]? = w.heap[k]?

theorem Turns.refl (L : List Nat) (w : World) : Turns L w w := ⟨rfl, rfl, rfl, Nat.le_refl _, fun _ _ _ => rfl⟩
/-- One behind the other: the second may turn what the first may, and what it made. -/
theorem Turns.trans {L L' : List Nat} {a b c : World} (h : Turns L a b) (k : Turns L' b c) (hL : ∀ x ∈ L', x ∈ L ∨ a.heap.size ≤ x) : Turns L a c :=
  ⟨k.os.trans h.os, k.tape.trans h.tape, k.output.trans h.output, Nat.le_trans h.size k.size, fun i hi hn => by
    rw [k.block i (Nat.lt_of_lt_of_le hi h.size) (fun hm => by rcases hL i hm with h1 | h1; exact hn h1; omega), h.block i hi hn]⟩
theorem Turns.mono {L L' : List Nat} {a b : World} (h : Turns L a b) (hL : ∀ x ∈ L, x ∈ L' ∨ a.heap.size ≤ x) : Turns L' a b :=
  ⟨h.os, h.tape, h.output, h.size, fun i hi hn => h.block i hi (fun hm => by rcases hL i hm with h1 | h1; exact hn h1; omega)⟩
theorem Turns.drew {L : List Nat} {a w : World} (h : Turns L a w) : Turns L a w.drew := ⟨h.os, h.tape, h.output, h.size, h.block⟩
theorem Turns.alloc {L : List Nat} {a w : World} (h : Turns L a w) (o : Obj) : Turns L a (w.alloc o) :=
  ⟨h.os, h.tape, h.output, by simp; exact Nat.le_succ_of_le h.size, fun i hi hn => by rw [Below.heap_alloc _ _ _ (Nat.lt_of_lt_of_le hi h.size), h.block i hi hn]⟩
theorem Turns.setCell {L : List Nat} {a w : World} (h : Turns L a w) {p : Addr} (hp : p.block ∈ L ∨ a.heap.size ≤ p.block) (u : Value) : Turns L a (w.setCell p u) :=
  ⟨h.os, h.tape, h.output, by simpa [World.setCell] using h.size, fun i hi hn => by
    rw [Below.heap_setCell _ _ _ _ (fun e => by subst e; rcases hp with h1 | h1; exact hn h1; omega), h.block i hi hn]⟩
theorem Turns.of_grown {L : List Nat} {a w : World} {row : Option Nat} (h : a.grownBy w row) (hr : ∀ k, row = some k → k ∈ L ∨ a.heap.size ≤ k) : Turns L a w :=
  ⟨h.os, h.tape, h.output, h.size, fun i hi hn => h.block i hi (fun e => by rcases hr i e.symm with h1 | h1; exact hn h1; omega)⟩
theorem Turns.of_below {L : List Nat} {a w : World} (h : Below a.heap.size a w) : Turns L a w := ⟨h.os, h.tape, h.output, h.size, fun i hi _ => h.block i hi⟩
/-- What lies ahead of all those blocks is as it was. -/
theorem Turns.below {L : List Nat} {B : Nat} {a w : World} (h : Turns L a w) (hB : B ≤ a.heap.size) (hL : ∀ x ∈ L, B ≤ x) : Below B a w :=
  ⟨h.os, h.tape, h.output, h.size, fun k hk => h.block k (by omega) (fun hm => by have := hL k hm; omega)⟩
/-- A slice value that lies in other blocks reads as it did. -/
theorem Turns.slice {L : List Nat} {a w : World} (h : Turns L a w) {B size n : Nat} {v : Value} {xs : List Value} (hs : Sl a B size v n xs) (hB : B ≤ a.heap.size) (hv : ∀ x ∈ L, v.ownBlock ≠ some x) : Sl w B size v n xs := by
  obtain ⟨hl, A, c, rfl, h1, h2, h3, hr⟩ := hs
  refine ⟨hl, A, c, rfl, h1, h2, h3, fun hn => ?_⟩
  obtain ⟨b, off, rfl, hb, hc⟩ := hr hn
  refine ⟨b, off, rfl, hb, fun j u hu => ?_⟩
  rw [World.cell?_of_block (w := a) (w' := w) (h.block b (by omega) (fun hm => hv b hm rfl))]
  exact hc j u hu

/-- A block's cells, whole. -/
def Blk (w : World) (g : Nat) (cs : List Value) (t : TypeId) : Prop := w.heap[g]? = some (.cells cs.toArray t (0, 0))
theorem Blk.lt {w : World} {g : Nat} {cs : List Value} {t : TypeId} (h : Blk w g cs t) : g < w.heap.size := (Array.getElem?_eq_some_iff.1 h).1
theorem Blk.turns {L : List Nat} {w w' : World} {g : Nat} {cs : List Value} {t : TypeId} (h : Blk w g cs t) (k : Turns L w w') (hg : g ∉ L) : Blk w' g cs t := by
  unfold Blk; rw [k.block g h.lt hg]; exact h
theorem Blk.cell {w : World} {g : Nat} {cs : List Value} {t : TypeId} (h : Blk w g cs t) (k : Nat) : w.cell? ⟨g, k, none⟩ = cs[k]? := by
  rw [cell_of_row w g k cs.toArray t (0, 0) h]; simp
theorem Blk.free {w : World} {g : Nat} {cs : List Value} {t : TypeId} (h : Blk w g cs t) (k : Nat) : w.frozen? ⟨g, k, none⟩ = false := by
  have h' : w.heap[g]? = some (.cells cs.toArray t (0, 0)) := h
  simp [World.frozen?, h']
theorem Blk.drew {w : World} {g : Nat} {cs : List Value} {t : TypeId} (h : Blk w g cs t) : Blk w.drew g cs t := h
theorem Blk.alloc {w : World} {g : Nat} {cs : List Value} {t : TypeId} (h : Blk w g cs t) (o : Obj) : Blk (w.alloc o) g cs t := by
  unfold Blk; rw [Below.heap_alloc _ _ _ h.lt]; exact h
theorem Blk.new (w : World) (cs : List Value) (t : TypeId) : Blk (w.alloc (.cells cs.toArray t)) w.heap.size cs t := by
  show (w.heap.push _)[w.heap.size]? = _
  simp
theorem Blk.set {w : World} {g : Nat} {cs : List Value} {t : TypeId} (h : Blk w g cs t) (k : Nat) (u : Value) : Blk (w.setCell ⟨g, k, none⟩ u) g (cs.set k u) t := by
  have h' : w.heap[g]? = some (.cells cs.toArray t (0, 0)) := h
  unfold Blk
  simp [World.setCell, Array.getElem?_modify, h']
theorem Blk.other {w : World} {g : Nat} {cs : List Value} {t : TypeId} (h : Blk w g cs t) {p : Addr} (hp : p.block ≠ g) (u : Value) : Blk (w.setCell p u) g cs t := by
  unfold Blk; rw [Below.heap_setCell _ _ _ _ (fun e => hp e.symm)]; exact h

/-- A list with these elements written over those from place o on. -/
def spl {α : Type} : List α → Nat → List α → List α
  | l, _, [] => l
  | l, o, v :: vs => spl (l.set o v) (o + 1) vs
theorem spl_length {α : Type} (vs : List α) : ∀ (l : List α) (o : Nat), (spl l o vs).length = l.length := by
  induction vs with
  | nil => intro l o; rfl
  | cons v vs ih => intro l o; rw [spl, ih, List.length_set]
theorem spl_out {α : Type} (vs : List α) : ∀ (l : List α) (o k : Nat), k < o ∨ o + vs.length ≤ k → (spl l o vs)[k]? = l[k]? := by
  induction vs with
  | nil => intro l o k h; rfl
  | cons v vs ih =>
    intro l o k h
    simp only [List.length_cons] at h
    rw [spl, ih _ _ _ (by omega), List.getElem?_set_ne (by omega)]
theorem spl_in {α : Type} (vs : List α) : ∀ (l : List α) (o k : Nat), k < vs.length → o + vs.length ≤ l.length → (spl l o vs)[o + k]? = vs[k]? := by
  induction vs with
  | nil => intro l o k h; simp at h
  | cons v vs ih =>
    intro l o k h hl
    simp only [List.length_cons] at h hl
    rw [spl]
    cases k with
    | zero => rw [spl_out _ _ _ _ (by omega), Nat.add_zero, List.getElem?_set_self (by omega)]; rfl
    | succ k => rw [show o + (k + 1) = o + 1 + k by omega, ih _ _ _ (by omega) (by rw [List.length_set]; omega)]; rfl
theorem Blk.setCells {g : Nat} {t : TypeId} (vs : List Value) : ∀ {w : World} {cs : List Value} (o : Nat), Blk w g cs t → Blk (w.setCells g o vs) g (spl cs o vs) t := by
  induction vs with
  | nil => intro w cs o h; exact h
  | cons v vs ih => intro w cs o h; exact ih (o + 1) (h.set o v)
theorem Turns.setCells {L : List Nat} {a : World} {b : Nat} (hb : b ∈ L ∨ a.heap.size ≤ b) (vs : List Value) : ∀ {w : World} (o : Nat), Turns L a w → Turns L a (w.setCells b o vs) := by
  induction vs with
  | nil => intro w o h; exact h
  | cons v vs ih => intro w o h; exact ih (o + 1) (h.setCell (p := ⟨b, o, none⟩) hb v)
/-- A part of a block, for the laws on whole arrays in the midst of one. -/
theorem Blk.range {w : World} {g : Nat} {cs : List Value} {t : TypeId} (h : Blk w g cs t) (o n : Nat) : w.rangeAt g o ((cs.drop o).take n) := fun j v hv => by
  rw [h.cell]
  rw [List.getElem?_take] at hv
  split at hv
  · rw [List.getElem?_drop] at hv; exact hv
  · cases hv
theorem Blk.there {w : World} {g : Nat} {cs : List Value} {t : TypeId} (h : Blk w g cs t) (o n : Nat) (hn : o + n ≤ cs.length) : w.there g o n := fun j hj => by
  refine ⟨?_, h.free _⟩
  rw [h.cell, List.getElem?_eq_getElem (by omega)]; rfl
end Go.Proofs.YtoahnhphfabajaaGreat
namespace Go.Proofs.YtoahnhphfabajaaGreat
set_option maxRecDepth 10000
open Go.RowKit
set_option linter.unusedVariables false
set_option linter.unusedSimpArgs false
set_option linter.unnecessarySimpa false

/-- A row of one's own, made behind W0, that holds these bytes. -/
structure Mine (W0 w : World) (v : Value) (bs : List UInt8) : Prop where
  own : w.ownsRow W0.heap.size 5 1 v bs.length (bvs bs)
  turns : Turns [] W0 w
theorem Mine.nil {W0 w : World} (t : Turns [] W0 w) : Mine W0 w (.slice none 0 0) [] := ⟨World.ownsRow_nil _ _ _ _, t⟩
theorem Mine.sl {W0 w : World} {v : Value} {bs : List UInt8} (h : Mine W0 w v bs) : Sl w w.heap.size 1 v bs.length (bvs bs) := Sl.of_own h.own
theorem Mine.alloc {W0 w : World} {v : Value} {bs : List UInt8} (h : Mine W0 w v bs) (o : Obj) : Mine W0 (w.alloc o) v bs := ⟨h.own.alloc o, h.turns.alloc o⟩
theorem Mine.on {W0 w w' : World} {v : Value} {bs : List UInt8} (h : Mine W0 w v bs) (t : Turns [] w w') : Mine W0 w' v bs := by
  refine ⟨?_, h.turns.trans t (by simp)⟩
  obtain ⟨h1, h2⟩ := h.own
  refine ⟨h1, ?_⟩
  rcases h2 with h2 | ⟨g, cap, cur, hv, hg, hh, r⟩
  · exact Or.inl h2
  · refine Or.inr ⟨g, cap, cur, hv, hg, ?_, r⟩
    rw [t.block g (Array.getElem?_eq_some_iff.1 hh).1 (by simp)]
    exact hh
theorem mine_new {W0 w w' : World} {v : Value} {n : Nat} {bs : List UInt8} (t : Turns [] W0 w) (own : w'.ownsRow w.heap.size 5 1 v n (bvs bs)) (hb : Below w.heap.size w w') : Mine W0 w' v bs := by
  have hl := own.1
  rw [bvs_length, Nat.mul_one] at hl
  subst hl
  exact ⟨own_more own t.size, t.trans (Turns.of_below (L := []) hb) (by simp)⟩
theorem mine_apd {W0 w w' : World} {v v' : Value} {n m : Nat} {bs cs : List UInt8} (h : Mine W0 w v bs) (ap : Apd W0.heap.size 5 1 w v n (bvs bs) w' v' m (bvs cs)) : Mine W0 w' v' cs := by
  have hl := ap.own.1
  rw [bvs_length, Nat.mul_one] at hl
  subst hl
  refine ⟨ap.own, ?_⟩
  exact h.turns.trans (L' := v.ownBlock.toList) (Turns.of_grown ap.grown (by intro k hk; exact .inl (by simpa using hk))) (by intro x hx; exact .inr (h.own.lt x (by simpa using hx)).1)
end Go.Proofs.YtoahnhphfabajaaGreat
namespace Go.Proofs.YtoahnhphfabajaaGreat
set_option maxRecDepth 10000
open Go.RowKit
set_option linter.unusedVariables false
set_option linter.unusedSimpArgs false
set_option linter.unnecessarySimpa false

theorem le8_length (n : Int) : (le8 n).length = 8 := by simp [le8]
theorem textBytes_length (s : List UInt8) : (textBytes s).length = 2 + min 65535 s.length := by simp [textBytes, cutText]; omega

end Go.Proofs.YtoahnhphfabajaaGreat
namespace Go.Proofs.YtoahnhphfabajaaGreat
set_option maxRecDepth 10000
open Go.RowKit
set_option linter.unusedVariables false
set_option linter.unusedSimpArgs false
set_option linter.unnecessarySimpa false

theorem CInt {W0 w : World} {v : Value} {bs : List UInt8} (n : Int) (h : Mine W0 w v bs) (hm : bs.length ≤ 1000000000) :
    Calls Tryz.prog 55 #[v, .int .i64 n] w fun e w' => ∃ v', e = .returned v' ∧ Mine W0 w' v' (bs ++ le8 n) ∧ Turns [] w w' :=
  (Int_any v bs.length bs n w h.sl hm).mono fun e w' ⟨v', he, ho, hb⟩ => ⟨v', he, mine_new h.turns ho hb, Turns.of_below (L := []) hb⟩
theorem CByte {W0 w : World} {v : Value} {bs : List UInt8} (n : Int) (h : Mine W0 w v bs) (hm : bs.length ≤ 1000000000) :
    Calls Tryz.prog 73 #[v, .int .i64 n] w fun e w' => ∃ v', e = .returned v' ∧ Mine W0 w' v' (bs ++ [byte1 n]) ∧ Turns [] w w' :=
  (Byte_any v bs n w h.sl hm).mono fun e w' ⟨v', he, ho, hb⟩ => ⟨v', he, mine_new h.turns ho hb, Turns.of_below (L := []) hb⟩
theorem CText {W0 w : World} {v : Value} {bs : List UInt8} (s : ByteArray) (h : Mine W0 w v bs) (hm : bs.length ≤ 1000000000) (hs : s.size ≤ maxLen) :
    Calls Tryz.prog 74 #[v, .string s] w fun e w' => ∃ v', e = .returned v' ∧ Mine W0 w' v' (bs ++ textBytes s.data.toList) ∧ Turns [] w w' :=
  (Text_any v bs s w h.sl hm hs).mono fun e w' ⟨v', he, ho, hb⟩ => ⟨v', he, mine_new h.turns ho hb, Turns.of_below (L := []) hb⟩
theorem RInt {W0 w : World} {v : Value} {bs : List UInt8} (n : Int) (h : Mine W0 w v bs) (hm : bs.length ≤ 1000000000) :
    Calls Tryz.prog 96 #[v, .int .i64 n] w fun e w' => ∃ v', e = .returned v' ∧ Mine W0 w' v' (bs ++ le8 n) :=
  (RInt_any W0.heap.size v bs n w h.own h.turns.size hm).mono fun e w' ⟨v', he, ap⟩ => ⟨v', he, mine_apd h ap⟩
theorem RByte {W0 w : World} {v : Value} {bs : List UInt8} (n : Int) (h : Mine W0 w v bs) (hm : bs.length ≤ 1000000000) :
    Calls Tryz.prog 113 #[v, .int .i64 n] w fun e w' => ∃ v', e = .returned v' ∧ Mine W0 w' v' (bs ++ [byte1 n]) :=
  (RByte_any W0.heap.size v bs n w h.own h.turns.size hm).mono fun e w' ⟨v', he, ap⟩ => ⟨v', he, mine_apd h ap⟩
theorem RText {W0 w : World} {v : Value} {bs : List UInt8} (s : ByteArray) (h : Mine W0 w v bs) (hm : bs.length ≤ 1000000000) (hs : s.size ≤ maxLen) :
    Calls Tryz.prog 112 #[v, .string s] w fun e w' => ∃ v', e = .returned v' ∧ Mine W0 w' v' (bs ++ textBytes s.data.toList) :=
  (RText_any W0.heap.size v bs s w h.own h.turns.size hm hs).mono fun e w' ⟨v', he, ap⟩ => ⟨v', he, mine_apd h ap⟩
end Go.Proofs.YtoahnhphfabajaaGreat
namespace Go.Proofs.YtoahnhphfabajaaGreat
set_option maxRecDepth 10000
open Go.RowKit
set_option linter.unusedVariables false
set_option linter.unusedSimpArgs false
set_option linter.unnecessarySimpa false

theorem within_val (a n : Int) (hn : 0 < n) : a % n = if a.tmod n < 0 then a.tmod n + n else a.tmod n := by
  rw [Int.emod_eq_tmod]
  by_cases h1 : n ∣ a
  · have h0 : a.tmod n = 0 := Int.tmod_eq_zero_of_dvd h1
    simp [h1, h0]
  · by_cases h2 : 0 ≤ a
    · have h3 := Int.tmod_nonneg n h2
      simp [h2, show ¬ a.tmod n < 0 by omega]
    · have h3 : a.tmod n = -((-a).tmod n) := by rw [Int.neg_tmod]; omega
      have h4 := Int.tmod_nonneg n (show 0 ≤ -a by omega)
      have h5 : a.tmod n ≠ 0 := fun h => h1 (Int.dvd_of_tmod_eq_zero h)
      simp [h1, h2, show a.tmod n < 0 by omega]
      omega
theorem tmod_bounds (a n : Int) (hn : 0 < n) : -n ≤ a.tmod n ∧ a.tmod n < n := by
  have h := within_val a n hn
  have h1 := Int.emod_nonneg a (show n ≠ 0 by omega)
  have h2 := Int.emod_lt_of_pos a hn
  split at h <;> omega

end Go.Proofs.YtoahnhphfabajaaGreat
namespace Go.Proofs.YtoahnhphfabajaaGreat
set_option maxRecDepth 10000
open Go.RowKit
set_option linter.unusedVariables false
set_option linter.unusedSimpArgs false
set_option linter.unnecessarySimpa false

end Go.Proofs.YtoahnhphfabajaaGreat
