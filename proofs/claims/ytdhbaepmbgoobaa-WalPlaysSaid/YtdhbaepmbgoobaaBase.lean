/- Words for memory: a slice that reads as a list of cells, and how such a reading is carried from world to world. -/
import Derived.WalkKit
import Derived.WalkSpells
import Derived.WalkLawsBesides
import Derived.Deep.AppendLies
import Derived.Deep.Draws
import Derived.Deep.QuietTactic
import Derived.Deep.RegionHeld3
import Derived.Deep.DrawnRows
import Derived.Deep.MidRow
import Derived.Deep.Light
import Derived.BigQuiet
import Derived.Lib.Hide
import Derived.Lib.ConvBytes
import Derived.Lib.AppendZeros
import Derived.Lib.AppendStr
import Derived.Laws.CopyOwn
namespace Go.Proofs.Ytdhbaepmbgoobaa
open Go.RowKit
set_option linter.unusedVariables false
set_option maxRecDepth 10000

/-- A byte as the model has it; bytes. -/
def u8v (b : UInt8) : Value := .int .u8 (b.toNat : Int)
def bvs (bs : List UInt8) : List Value := bs.map u8v
theorem bvs_length (bs : List UInt8) : (bvs bs).length = bs.length := by simp [bvs]
theorem bvs_append (a b : List UInt8) : bvs (a ++ b) = bvs a ++ bvs b := by simp [bvs]
theorem bvs_one (bs : List UInt8) : ∀ u ∈ bvs bs, u.oneCell' = true := by
  intro u hu
  obtain ⟨b, _, rfl⟩ := List.mem_map.1 hu
  rfl

theorem addr_block (a : Addr) (n : Nat) : (a.add n).block = a.block := by unfold Addr.add; split <;> rfl
theorem addr_add (a : Addr) (i j : Nat) : (a.add i).add j = a.add (i + j) := by
  unfold Addr.add
  by_cases hi : i = 0 <;> by_cases hj : j = 0 <;> simp [hi, hj, Nat.add_assoc]

/-- The cells xs lie at the address A, in a block below B. -/
def Rd (w : World) (B : Nat) (A : Option Addr) (xs : List Value) : Prop :=
  xs ≠ [] → ∃ b off, A = some ⟨b, off, none⟩ ∧ b < B ∧ ∀ j u, xs[j]? = some u → w.cell? ⟨b, off + j, none⟩ = some u

section
variable {w w' : World} {B B' : Nat} {A : Option Addr} {xs ys : List Value}
theorem Rd.nil : Rd w B A [] := fun h => absurd rfl h
theorem Rd.keep (h : Rd w B A xs) (hk : ∀ p : Addr, p.block < B → w'.cell? p = w.cell? p) : Rd w' B A xs := fun hn => by
  obtain ⟨b, off, e, hb, hc⟩ := h hn
  exact ⟨b, off, e, hb, fun j u hu => (hk ⟨b, off + j, none⟩ hb).trans (hc j u hu)⟩
theorem Rd.more (h : Rd w B A xs) (hB : B ≤ B') : Rd w B' A xs := fun hn => by
  obtain ⟨b, off, e, hb, hc⟩ := h hn
  exact ⟨b, off, e, by omega, hc⟩
theorem Rd.at_ (h : Rd w B A xs) {k : Nat} (hk : k < xs.length) : ∃ b off, A = some ⟨b, off, none⟩ ∧ b < B ∧ w.cell? ⟨b, off + k, none⟩ = some xs[k] := by
  obtain ⟨b, off, e, hb, hc⟩ := h (by intro h0; subst h0; simp at hk)
  exact ⟨b, off, e, hb, hc k _ (List.getElem?_eq_getElem hk)⟩
theorem Rd.left (h : Rd w B A (xs ++ ys)) : Rd w B A xs := fun hn => by
  obtain ⟨b, off, e, hb, hc⟩ := h (by simp [hn])
  refine ⟨b, off, e, hb, fun j u hu => hc j u ?_⟩
  rw [List.getElem?_append_left (List.getElem?_eq_some_iff.1 hu).1]; exact hu
theorem Rd.take (h : Rd w B A xs) (k : Nat) : Rd w B A (xs.take k) := by
  rw [← List.take_append_drop k xs] at h; exact h.left
theorem Rd.drop (h : Rd w B A xs) (k : Nat) : Rd w B (A.map fun a => ⟨a.block, a.off + k, none⟩) (xs.drop k) := fun hn => by
  obtain ⟨b, off, rfl, hb, hc⟩ := h (by intro h0; subst h0; simp at hn)
  refine ⟨b, off + k, rfl, hb, fun j u hu => ?_⟩
  rw [Nat.add_assoc]
  exact hc _ u (by rw [← hu, List.getElem?_drop])
theorem Rd.of_own {base : Nat} {e : TypeId} {size n c : Nat} (h : w.ownsRow base e size (.slice A n c) n xs) : Rd w w.heap.size A xs := fun hn => by
  rcases h.2 with ⟨_, h0⟩ | ⟨g, cap, cur, hv, hb, hg, _⟩
  · subst h0
    have := h.1
    simp at this
    exact absurd this hn
  · injection hv with hA
    subst hA
    refine ⟨g, 0, rfl, (Array.getElem?_eq_some_iff.1 hg).1, fun j u hu => ?_⟩
    rw [← h.cells (g := g) rfl j u hu, Addr.add_lit]
end

/-- A slice value v of n elements, 'size' cells each, reads as the cells xs. -/
structure Sl (w : World) (B : Nat) (size : Nat) (v : Value) (n : Nat) (xs : List Value) : Prop where
  len : xs.length = n * size
  form : ∃ A c, v = .slice A n c ∧ n ≤ c ∧ c ≤ maxLen ∧ (A = none → c = 0) ∧ Rd w B A xs

section
variable {w w' : World} {B B' size n : Nat} {v : Value} {xs ys : List Value}
theorem Sl.nil : Sl w B size (.slice none 0 0) 0 [] := ⟨by simp, none, 0, rfl, Nat.le_refl _, Nat.zero_le _, fun _ => rfl, Rd.nil⟩
theorem Sl.keep (h : Sl w B size v n xs) (hk : ∀ p : Addr, p.block < B → w'.cell? p = w.cell? p) : Sl w' B size v n xs := by
  obtain ⟨hl, A, c, hv, h1, h2, h3, hr⟩ := h
  exact ⟨hl, A, c, hv, h1, h2, h3, hr.keep hk⟩
theorem Sl.more (h : Sl w B size v n xs) (hB : B ≤ B') : Sl w B' size v n xs := by
  obtain ⟨hl, A, c, hv, h1, h2, h3, hr⟩ := h
  exact ⟨hl, A, c, hv, h1, h2, h3, hr.more hB⟩
theorem Sl.below (h : Sl w B size v n xs) (hb : Below B w w') : Sl w' B size v n xs := h.keep fun _ hp => hb.cell hp
theorem Sl.below_le (h : Sl w B size v n xs) (hb : Below B' w w') (hB : B ≤ B') : Sl w' B size v n xs := h.keep fun _ hp => hb.cell (by omega)
theorem Sl.alloc (h : Sl w B size v n xs) (hB : B ≤ w.heap.size) (o : Obj) : Sl (w.alloc o) B size v n xs := h.keep fun p hp => World.cell?_alloc_lt w o p (by omega)
theorem Sl.setCell (h : Sl w B size v n xs) {p : Addr} (hB : B ≤ p.block) (u : Value) : Sl (w.setCell p u) B size v n xs :=
  h.keep fun q hq => World.cell?_setCell_other w p q u (fun e => by subst e; omega)
theorem Sl.grown (h : Sl w B size v n xs) {row : Option Nat} (hg : w.grownBy w' row) (hB : B ≤ w.heap.size) (hr : ∀ g, row = some g → B ≤ g) : Sl w' B size v n xs :=
  h.keep fun p hp => World.cell?_of_block (hg.block p.block (by omega) (fun e => by have := hr _ e.symm; omega))
theorem Sl.of_own {base : Nat} {e : TypeId} (h : w.ownsRow base e size v n xs) : Sl w w.heap.size size v n xs := by
  refine ⟨h.1, ?_⟩
  rcases h.2 with ⟨rfl, rfl⟩ | ⟨g, cap, cur, rfl, hb, hg, hn, hm, r⟩
  · have := h.1
    simp at this
    subst this
    exact ⟨none, 0, rfl, Nat.le_refl _, Nat.zero_le _, fun _ => rfl, Rd.nil⟩
  · exact ⟨_, cap, rfl, hn, hm, (fun h => by cases h), Rd.of_own h⟩
end

/-- Below, more. -/
theorem Below.drewN {B : Nat} {a w : World} (h : Below B a w) (n : Nat) : Below B a (w.drewN n) := ⟨h.os, h.tape, h.output, h.size, h.block⟩

/-- A slice type's row of the program's tables. -/
structure SliceTy (P : Program) (t e : TypeId) (z : Value) (size bytes : Nat) : Prop where
  und : P.underlying t = some (.slice e)
  info : (P.info? e).map (fun i => (i.zero, i.size, i.bytes)) = some (some z, size, bytes)
  cells : z.cells.size = size
  pos : 0 < size

/-- What an append leaves: the new slice owns what it must; the old one reads as it did; nothing else has turned; where it lies. -/
structure Apd (base : Nat) (e : TypeId) (size : Nat) (w : World) (v : Value) (n0 : Nat) (xs0 : List Value) (w' : World) (v' : Value) (n : Nat) (xs : List Value) : Prop where
  own : w'.ownsRow base e size v' n xs
  old : w'.ownsRow base e size v n0 xs0
  grown : w.grownBy w' v.ownBlock
  lies : v'.ownBlock = v.ownBlock ∨ ∃ g, v'.ownBlock = some g ∧ w.heap.size ≤ g

section
variable {base : Nat} {e : TypeId} {size n m B : Nat} {w0 w w' : World} {v v' : Value} {xs ys : List Value}
theorem Apd.below (h : Apd base e size w v n xs w' v' m ys) (hb : Below B w0 w) (hown : w.ownsRow base e size v n xs) (h1 : B ≤ base) (h2 : B ≤ w.heap.size) : Below B w0 w' :=
  hb.grown h.grown h2 (fun k hk => Nat.le_trans h1 (hown.lt k hk).1)

theorem Apd.grow (hown : w.ownsRow base e size v n xs) (hb : base ≤ w.heap.size) (z : Value) (hzs : z.cells.size = size) (news : List Value) (hl : news.length = m * size) (cap : Nat) (h1 : n + m ≤ cap) (h2 : cap ≤ maxLen) :
    Apd base e size w v n xs (w.drew.alloc (.cells (xs.toArray ++ news.toArray ++ Builtin.zeroCells z.cells (cap - (n + m))) e)) (.slice (some ⟨w.heap.size, 0, none⟩) (n + m) cap) (n + m) (xs ++ news) := by
  have hlen : (xs ++ news).length = (n + m) * size := by rw [List.length_append, hown.1, hl, Nat.add_mul]
  refine ⟨⟨hlen, .inr ⟨w.heap.size, _, _, rfl, hb, heap_alloc_new w.drew _, h1, h2, ?_, ?_⟩⟩, (hown.drew).alloc _, ⟨rfl, rfl, rfl, by simp, fun k hk _ => heap_alloc_old w.drew _ hk⟩, .inr ⟨_, rfl, Nat.le_refl _⟩⟩
  · simp only [Array.size_append, List.size_toArray, size_zeroCells, hzs, hown.1, hl, ← Nat.add_mul]
    congr 1
    omega
  · simp only [Array.toList_append, List.append_assoc]
    rw [← List.append_assoc, ← hlen]
    exact List.take_left

theorem Apd.refl (hown : w.ownsRow base e size v n xs) : Apd base e size w v n xs w v n xs := ⟨hown, hown, World.grownBy.refl w _, .inl rfl⟩

/-- One append behind another, new blocks between. -/
theorem Apd.trans {w1 w2 : World} {v1 : Value} {k : Nat} {zs : List Value} (hsz : 0 < size) (h0 : Apd base e size w v n xs w1 v1 m ys) (hmid : w1.grownBy w2 none) (h : Apd base e size w2 v1 m ys w' v' k zs) (hnm : n ≤ m) (hxy : ys.take (n * size) = xs) :
    Apd base e size w v n xs w' v' k zs := by
  have hold2 : w2.ownsRow base e size v n xs := h0.old.kept hmid (by cases v.ownBlock <;> simp)
  refine ⟨h.own, ?_, ⟨h.grown.os.trans (hmid.os.trans h0.grown.os), h.grown.tape.trans (hmid.tape.trans h0.grown.tape), h.grown.output.trans (hmid.output.trans h0.grown.output), Nat.le_trans h0.grown.size (Nat.le_trans hmid.size h.grown.size), fun j hj hne => ?_⟩, ?_⟩
  · by_cases hb : v.ownBlock = v1.ownBlock
    · -- the same row
      refine ⟨hold2.1, ?_⟩
      rcases hold2.2 with hn | ⟨g, cap, cur, rfl, hbg, hg, hnc, hcm, hcs, htake⟩
      · exact .inl hn
      · refine .inr ⟨g, cap, ?_⟩
        have hb' : v1.ownBlock = some g := by rw [← hb]; rfl
        rcases h.old.2 with ⟨rfl, _⟩ | ⟨g1, cap1, cur1, rfl, _, hg1, _, _, hcs1, htake1⟩
        · simp [Value.ownBlock] at hb'
        · have : g1 = g := by simpa [Value.ownBlock] using hb'
          subst this
          refine ⟨cur1, rfl, hbg, hg1, hnc, hcm, ?_, ?_⟩
          · rcases (h0.own.kept hmid (by cases (Value.ownBlock (.slice (some ⟨g1, 0, none⟩) m cap1)) <;> simp)).2 with ⟨h', _⟩ | ⟨g2, cap2, cur2, h', _, hg2, _, _, hcs2, _⟩
            · cases h'
            · injection h' with h1 h2 h3
              injection h1 with h1
              injection h1 with h1
              subst h1 h3
              rw [hg] at hg2
              injection hg2 with hg2
              injection hg2 with hg2
              subst hg2
              rw [hcs1, ← hcs2, hcs]
          · rw [← hxy, ← htake1, List.take_take, Nat.min_eq_left (Nat.mul_le_mul_right _ hnm)]
    · exact hold2.kept h.grown (.inr hb)
  · rw [h.grown.block j (Nat.lt_of_lt_of_le hj (Nat.le_trans h0.grown.size hmid.size)) ?_, hmid.block j (Nat.lt_of_lt_of_le hj h0.grown.size) (by simp), h0.grown.block j hj hne]
    rcases h0.lies with hl | ⟨g, hl, hge⟩
    · rw [hl]; exact hne
    · rw [hl]; intro he; injection he with he; omega
  · rcases h.lies with hl | ⟨g, hl, hge⟩
    · rw [hl]; exact h0.lies
    · exact .inr ⟨g, hl, Nat.le_trans h0.grown.size (Nat.le_trans hmid.size hge)⟩

theorem Apd.room {g cap : Nat} {cur : Array Value} (hown : w.ownsRow base e size (.slice (some ⟨g, 0, none⟩) n cap) n xs) (hb : base ≤ g) (hg : w.heap[g]? = some (.cells cur e (0, 0))) (hcm : cap ≤ maxLen) (hnc : n ≤ cap)
    (hcs : cur.size = cap * size) (htake : cur.toList.take (n * size) = xs) (news : List Value) (hl : news.length = m * size) (hroom : n + m ≤ cap) :
    Apd base e size w (.slice (some ⟨g, 0, none⟩) n cap) n xs (w.setRow g (cur.toList.take (n * size) ++ news ++ cur.toList.drop (n * size + news.length)).toArray) (.slice (some ⟨g, 0, none⟩) (n + m) cap) (n + m) (xs ++ news) := by
  have hlen : (xs ++ news).length = (n + m) * size := by rw [List.length_append, hown.1, hl, Nat.add_mul]
  have hfit : n * size + news.length ≤ cur.size := by rw [hl, hcs, ← Nat.add_mul]; exact Nat.mul_le_mul_right _ hroom
  have hsz : (cur.toList.take (n * size) ++ news ++ cur.toList.drop (n * size + news.length)).toArray.size = cap * size := by
    simp only [List.size_toArray, List.length_append, List.length_take, List.length_drop, Array.length_toList]
    omega
  refine ⟨⟨hlen, .inr ⟨g, cap, _, rfl, hb, setRow_heap w g cur _ e _ hg, hroom, hcm, hsz, ?_⟩⟩, ⟨hown.1, .inr ⟨g, cap, _, rfl, hb, setRow_heap w g cur _ e _ hg, hnc, hcm, hsz, ?_⟩⟩, ⟨rfl, rfl, rfl, by simp, fun k _ hk => setRow_other w g k _ (fun e => hk (by simp [Value.ownBlock, e]))⟩, .inl rfl⟩
  · rw [htake, ← hlen]
    exact List.take_left
  · rw [htake, ← hown.1, List.append_assoc]
    exact List.take_left
end

section
variable {P : Program} (w : World)

/-- append onto a row of the call's own, whatever is appended. -/
theorem run_append_rd {t e : TypeId} {z : Value} {size bytes : Nat} (T : SliceTy P t e z size bytes) (ty : TypeId) {base : Nat}
    {v : Value} {n : Nat} {xs : List Value} (hown : w.ownsRow base e size v n xs)
    {B : Nat} {x : Value} {m : Nat} {news : List Value} (hr : Sl w B size x m news) (h1 : ∀ u ∈ news, u.oneCell' = true)
    (h63 : n + m ≤ maxLen) (hbytes : (n + m) * bytes ≤ 140737488355328) (hbase : base ≤ w.heap.size) :
    ∃ v' w', (Builtin.append_ #[t, t] ty #[v, x]).run P w = .ok v' w' ∧ Apd base e size w v n xs w' v' (n + m) (xs ++ news) := by
  obtain ⟨ht, hinfo, hzs, hsz⟩ := T
  obtain ⟨i, hi, hz, hsize, hby⟩ := info_parts hinfo
  obtain ⟨hl, A, c, rfl, hnc, hcm, hA, hrd⟩ := hr
  have h63' : n + m ≤ 9223372036854775807 := by simp only [maxLen] at h63; omega
  subst hsize hby
  -- where nothing is appended
  by_cases h0 : m = 0
  · subst h0
    have hn0 : news = [] := List.eq_nil_of_length_eq_zero (by omega)
    subst hn0
    refine ⟨v, w, ?_, ⟨by simpa using hown, hown, World.grownBy.refl w _, .inl rfl⟩⟩
    rcases hown.2 with ⟨rfl, rfl⟩ | ⟨g, cap, cur, rfl, _, _, hnc, _⟩
    · cases A <;> simp [Builtin.append_, run_underlying ht, sizeOf, typeInfo, hi, Builtin.lenOf, Builtin.firstCells, loadCells, loadCellsFrom]
    · cases A <;> simp [Builtin.append_, run_underlying ht, sizeOf, typeInfo, hi, Builtin.lenOf, Builtin.firstCells, hnc, storeCells, loadCells, loadCellsFrom]
  · have hnn : news ≠ [] := by
      intro h; subst h
      have := Nat.mul_pos (Nat.pos_of_ne_zero h0) hsz
      simp only [List.length_nil] at hl
      omega
    obtain ⟨b, off, rfl, _, hcells⟩ := hrd hnn
    replace hcells : ∀ j u, news[j]? = some u → w.cell? ((⟨b, off, none⟩ : Addr).add j) = some u := fun j u hu => by rw [Addr.add_lit]; exact hcells j u hu
    rcases hown.2 with ⟨rfl, rfl⟩ | ⟨g, cap, cur, rfl, hbg, hg, hnc', hcm', hcs, htake⟩
    · have hx : xs = [] := List.eq_nil_of_length_eq_zero (by simpa using hown.1)
      subst hx
      have hr := run_append_nil (P := P) w t ty e i z ht hi hz ⟨b, off, none⟩ m c news hl hcells (by omega) (by omega) (by have hb := hbytes; simp only [Nat.zero_add] at hb; omega)
      have hgr := Apd.grow hown hbase z hzs news hl (grownCap w m 0 e) (by have := grownCap_ge w m 0 e; omega) (grownCap_le_maxLen w m 0 e (by omega))
      simp only [Nat.zero_add, List.nil_append, Array.empty_append] at hgr ⊢
      exact ⟨_, _, hr, hgr⟩
    · by_cases hroom : n + m ≤ cap
      · have hr := run_append_room (P := P) w t ty e i ht hi g n cap cur hg ⟨b, off, none⟩ m c news hl hcells h1 hroom (by rw [hl, hcs, ← Nat.add_mul]; exact Nat.mul_le_mul_right _ hroom)
        exact ⟨_, _, hr, Apd.room hown hbg hg hcm' hnc' hcs htake news hl hroom⟩
      · have hr := run_append_grow (P := P) w t ty e i z ht hi hz ⟨g, 0, none⟩ n cap xs hown.1 (hown.cells (g := g) rfl) ⟨b, off, none⟩ m c news hl hcells (by omega) (by omega) (growslice_fits (by omega) hbytes)
        exact ⟨_, _, hr, Apd.grow hown hbase z hzs news hl _ (grownCap_ge w (n + m) cap e) (grownCap_le_maxLen w (n + m) cap e h63)⟩

theorem bvs_str (s : ByteArray) : Lib.strCells s = bvs s.data.toList := rfl

/-- append of a string's bytes. -/
theorem run_append_str {t u e : TypeId} (T : SliceTy P t e (.int .u8 0) 1 1) (hu : P.underlying u = some .string) (ty : TypeId) {base : Nat}
    {v : Value} {n : Nat} {xs : List Value} (hown : w.ownsRow base e 1 v n xs) (s : ByteArray)
    (hbytes : n + s.size ≤ 140737488355328) (hbase : base ≤ w.heap.size) :
    ∃ v' w', (Builtin.append_ #[t, u] ty #[v, .string s]).run P w = .ok v' w' ∧ Apd base e 1 w v n xs w' v' (n + s.size) (xs ++ bvs s.data.toList) := by
  obtain ⟨ht, hinfo, hzs, hsz⟩ := T
  obtain ⟨i, hi, hz, hsize, hby⟩ := info_parts hinfo
  have h63 : n + s.size ≤ maxLen := by simp only [maxLen]; omega
  have hl : (bvs s.data.toList).length = s.size * 1 := by rw [bvs_length, Nat.mul_one]; rfl
  rw [← bvs_str] at hl ⊢
  rcases hown.2 with ⟨rfl, rfl⟩ | ⟨g, cap, cur, rfl, hbg, hg, hnc, hcm, hcs, htake⟩
  · have hx : xs = [] := List.eq_nil_of_length_eq_zero (by simpa using hown.1)
    subst hx
    by_cases hm : s.size = 0
    · have hn : Lib.strCells s = [] := List.eq_nil_of_length_eq_zero (by rw [Lib.strCells_length]; exact hm)
      refine ⟨.slice none 0 0, w, ?_, ⟨by rw [hm, hn]; exact World.ownsRow_nil w base e 1, World.ownsRow_nil w base e 1, World.grownBy.refl w _, .inl rfl⟩⟩
      have hf := Lib.run_firstCells_string (P := P) w 1 s
      rw [hm] at hf
      simp [Builtin.append_, run_underlying ht, run_underlying hu, sizeOf, typeInfo, hi, hsize, Builtin.lenOf, hm, hf]
    · have hr := run_append_nil_string (P := P) w t u ty e i (.int .u8 0) ht hu hi hz s (by omega) (by omega) (by rw [hby]; omega)
      have hgr := Apd.grow hown hbase (.int .u8 0) hzs (Lib.strCells s) hl (grownCap w s.size 0 e) (by have := grownCap_ge w s.size 0 e; omega) (grownCap_le_maxLen w s.size 0 e (by omega))
      simp only [Nat.zero_add, List.nil_append, Array.empty_append] at hgr ⊢
      have e1 : (s.data.map fun b => Value.int .u8 b.toNat) = (Lib.strCells s).toArray := by
        apply Array.ext'
        simp [Lib.strCells]
      rw [e1] at hr
      exact ⟨_, _, hr, hgr⟩
  · by_cases hroom : n + s.size ≤ cap
    · have hr := Lib.run_append_room_string (P := P) w t u ty e i ht hu hi hsize g n cap cur hg s hroom (by omega)
      have ha := Apd.room hown hbg hg hcm hnc hcs htake (Lib.strCells s) hl hroom
      rw [Lib.strCells_length, Nat.mul_one] at ha
      exact ⟨_, _, hr, ha⟩
    · have hr := Lib.run_append_grow_string (P := P) w t u ty e i (.int .u8 0) ht hu hi hz ⟨g, 0, none⟩ n cap xs (by rw [hsize]; exact hown.1) (hown.cells (g := g) rfl) s (by omega) (by omega) (by rw [hby]; exact growslice_fits (by omega) (by omega))
      exact ⟨_, _, hr, Apd.grow hown hbase (.int .u8 0) hzs (Lib.strCells s) hl _ (grownCap_ge w (n + s.size) cap e) (grownCap_le_maxLen w (n + s.size) cap e h63)⟩

theorem wp_append_run {o : Oper} {a : Act} {K : Act → World → Prop} {Q : Exit → Act → World → Prop} {t u : TypeId} (s x : Operand)
    (ho : o.op = .call { callee := .builtin .append, args := #[s, x], argTypes := #[t, u] }) {vs vx : Value} (hs : a.eval s = vs) (hx : a.eval x = vx)
    {R : Value → World → Prop} (hrun : ∃ v' w', (Builtin.append_ #[t, u] o.type #[vs, vx]).run P w = .ok v' w' ∧ R v' w')
    (h : ∀ v' w', R v' w' → K (a.put o.dst v') w') : o.wp P a w K Q := by
  obtain ⟨v', w', hrun, h2⟩ := hrun
  unfold Oper.wp execOp
  simp only [ho, resolve, invoke, builtin, Sem.run_bind, Sem.run_pure, Result.andThen_ok, List.map_toArray, List.map_cons, List.map_nil, hs, hx, hrun]
  exact h v' w' h2

/-- At the walk: an append, by a law on its run. -/
theorem wpList_append {ops : Array Oper} {rest : List Oper} {o : Oper} {a : Act} {Q : Exit → Act → World → Prop} (hgd : o.guard = none) {t u : TypeId} (s x : Operand)
    (ho : o.op = .call { callee := .builtin .append, args := #[s, x], argTypes := #[t, u] }) {vs vx : Value}
    {R : Value → World → Prop} (hrun : ∃ v' w', (Builtin.append_ #[t, u] o.type #[vs, vx]).run P w = .ok v' w' ∧ R v' w') (hs : a.eval s = vs) (hx : a.eval x = vx)
    (h : ∀ v' w', R v' w' → wpList P ops Q rest (a.put o.dst v') w') : wpList P ops Q (o :: rest) a w :=
  wpList_plain hgd fun _ hK => wp_append_run w s x ho hs hx hrun fun v' w' h2 => hK _ _ (h v' w' h2)
end

theorem own_more {w : World} {base base' : Nat} {e : TypeId} {size n : Nat} {v : Value} {xs : List Value} (h : w.ownsRow base' e size v n xs) (hb : base ≤ base') : w.ownsRow base e size v n xs := by
  refine ⟨h.1, ?_⟩
  rcases h.2 with h | ⟨g, cap, cur, hv, hg, r⟩
  · exact .inl h
  · exact .inr ⟨g, cap, cur, hv, Nat.le_trans hb hg, r⟩

/-- Elements in a block of their own, just made: what 'append(xs, x, y)' appends; a slice literal. -/
theorem Sl.new (w : World) (cs : Array Value) (t : TypeId) (n size : Nat) (h : cs.size = n * size) (hm : n ≤ maxLen) : Sl (w.alloc (.cells cs t)) (w.heap.size + 1) size (.slice (some ⟨w.heap.size, 0, none⟩) n n) n cs.toList :=
  ⟨by simpa using h, _, n, rfl, Nat.le_refl _, hm, (fun h => by cases h), fun _ => ⟨_, _, rfl, Nat.lt_succ_self _, fun j u hu => by
    rw [cell_of_row _ _ _ cs t (0, 0) (heap_alloc_new w _)]
    simpa using hu⟩⟩

/-- '[]byte(s)': the string's bytes in a new row. -/
theorem below_bytesWorld (w : World) (e : TypeId) (s : ByteArray) : Below w.heap.size w (Lib.bytesWorld w e s) :=
  ⟨rfl, rfl, rfl, by rw [Lib.bytesWorld_size]; omega, fun k hk => Lib.bytesWorld_at_old w e s k hk⟩
theorem Sl.bytesWorld (w : World) (e : TypeId) (s : ByteArray) (hs : s.size ≤ maxLen) : Sl (Lib.bytesWorld w e s) (w.heap.size + 1) 1 (.slice (some ⟨w.heap.size, 0, none⟩) s.size (grownCap w s.size 0 e)) s.size (bvs s.data.toList) := by
  refine ⟨by rw [bvs_length, Nat.mul_one]; rfl, _, _, rfl, grownCap_ge _ _ _ _, grownCap_le_maxLen _ _ _ _ hs, (fun h => by cases h), fun _ => ⟨_, _, rfl, Nat.lt_succ_self _, fun j u hu => ?_⟩⟩
  have hj : j < s.size := by
    have := (List.getElem?_eq_some_iff.1 hu).1
    rw [bvs_length] at this
    exact this
  rw [Nat.zero_add, Lib.bytesWorld_cell w e s j hj, ← hu]
  have hj' : j < s.data.toList.length := hj
  simp [bvs, u8v, List.getD, List.getElem?_eq_getElem hj']
theorem str_data (s : ByteArray) : s.data.toList.length = s.size := rfl

/-- 'string(b)' of bytes that lie in memory. -/
def strOf (bs : List UInt8) : ByteArray := ⟨bs.toArray⟩
theorem strOf_toList (bs : List UInt8) : (strOf bs).toList = bs := ByteArray.toList_mk bs
theorem strOf_size (bs : List UInt8) : (strOf bs).size = bs.length := rfl
theorem conv_str {P : Program} {w : World} {B n : Nat} {v : Value} {bs : List UInt8} (h : Sl w B 1 v n (bvs bs)) {src dst e : TypeId} (hs : P.underlying src = some (.slice e)) (he : P.underlying e = some (.int .u8)) (hd : P.underlying dst = some .string) :
    (convert src dst v).run P w = .ok (.string (strOf bs)) w := by
  obtain ⟨hl, A, c, rfl, hnc, hcm, hA, hrd⟩ := h
  rw [bvs_length, Nat.mul_one] at hl
  have e0 : strOfNums (bs.map fun b => (b.toNat : Int)) = strOf bs := by
    unfold strOfNums strOf
    congr 2
    rw [List.map_map]
    conv => rhs; rw [← List.map_id bs]
    apply List.map_congr_left
    intro b _
    simp
  by_cases h0 : bs = []
  · subst h0
    have : n = 0 := by simpa using hl.symm
    subst this
    rcases A with _ | ⟨b, off, spot⟩
    · exact run_convert_bytes_nil w src e hs he 0 c dst hd
    · rw [run_convert_bytes_string w src dst e _ 0 c hs he hd]
      simp [Conv.bytesToString, loadCells, loadCellsFrom, strOf]
      rfl
  · have hne : bvs bs ≠ [] := by intro h; exact h0 (List.map_eq_nil_iff.1 h)
    obtain ⟨b, off, rfl, _, hc⟩ := hrd hne
    rw [run_convert_bytes_arg w src e hs he b off n c (bs.map fun b => (b.toNat : Int)) (by simpa using hl) ?_ dst hd, e0]
    intro i hi
    have hi' : i < bs.length := by omega
    rw [hc i (u8v bs[i]) (by simp [bvs, List.getElem?_eq_getElem hi'])]
    simp [u8v, List.getD, List.getElem?_eq_getElem hi']

/-- Only one row, and what is new, has turned. -/
theorem Sl.only {w w' : World} {B size n : Nat} {v : Value} {xs : List Value} {row : Option Nat} (h : Sl w B size v n xs) (hg : w.grownBy w' row) (hne : row = none ∨ v.ownBlock ≠ row) : Sl w' B size v n xs := by
  obtain ⟨hl, A, c, rfl, h1, h2, h3, hr⟩ := h
  refine ⟨hl, A, c, rfl, h1, h2, h3, fun hn => ?_⟩
  obtain ⟨b, off, rfl, hb, hc⟩ := hr hn
  refine ⟨b, off, rfl, hb, fun j u hu => ?_⟩
  have h4 := hc j u hu
  refine (World.cell?_of_block (hg.block b (World.block_lt_of_cell? w _ h4) ?_)).trans h4
  rcases hne with rfl | hne
  · simp
  · simpa [Value.ownBlock] using hne
theorem grown_trans' {a b c : World} {row : Option Nat} (h : a.grownBy b row) (k : b.grownBy c row) : a.grownBy c row :=
  ⟨k.os.trans h.os, k.tape.trans h.tape, k.output.trans h.output, Nat.le_trans h.size k.size, fun i hi hne => (k.block i (Nat.lt_of_lt_of_le hi h.size) hne).trans (h.block i hi hne)⟩
theorem grown_of_below {a w : World} (h : Below a.heap.size a w) (row : Option Nat) : a.grownBy w row := ⟨h.os, h.tape, h.output, h.size, fun i hi _ => h.block i hi⟩

/-- 's[:k]' and 's[k:]' of elements of one cell. -/
theorem Sl.to {w : World} {B n c k : Nat} {A : Option Addr} {xs : List Value} (h : Sl w B 1 (.slice A n c) n xs) (hk : k ≤ n) : Sl w B 1 (.slice A k c) k (xs.take k) := by
  obtain ⟨hl, A', c', hv, h1, h2, h3, hr⟩ := h
  injection hv with e1 _ e2
  subst e1 e2
  exact ⟨by simp; omega, _, _, rfl, by omega, h2, h3, hr.take k⟩
theorem Sl.from_ {w : World} {B n c k : Nat} {A : Option Addr} {xs : List Value} (h : Sl w B 1 (.slice A n c) n xs) (hk : k ≤ n) (hc : c ≠ k) : Sl w B 1 (.slice (A.map fun x => x.add k) (n - k) (c - k)) (n - k) (xs.drop k) := by
  obtain ⟨hl, A', c', hv, h1, h2, h3, hr⟩ := h
  injection hv with e1 _ e2
  subst e1 e2
  refine ⟨by simp; omega, _, _, rfl, by omega, by omega, (fun h => by
    have : A = none := by cases A <;> simp_all
    have := h3 this
    omega), fun hn => ?_⟩
  obtain ⟨b, off, e, hb, hcell⟩ := hr.drop k hn
  rcases A with _ | ⟨b', off', spot'⟩
  · simp at e
  · obtain ⟨b2, off2, e2, hb2, hc2⟩ := hr (by intro h; subst h; simp at hn)
    injection e2 with e2
    injection e2 with e3 e4 e5
    subst e3 e4 e5
    refine ⟨b', off' + k, ?_, hb2, fun j u hu => ?_⟩
    · simp [Addr.add_lit]
    · have := hc2 (k + j) u (by rw [← hu, List.getElem?_drop])
      rw [Nat.add_assoc]; exact this
theorem Sl.from_end {w : World} {B n c k : Nat} {A : Option Addr} {xs : List Value} (h : Sl w B 1 (.slice A n c) n xs) (hk : k ≤ n) (hc : c = k) : Sl w B 1 (.slice A (n - k) (c - k)) (n - k) (xs.drop k) := by
  obtain ⟨hl, A', c', hv, h1, h2, h3, hr⟩ := h
  injection hv with e1 _ e2
  subst e1 e2
  have : xs.drop k = [] := List.drop_eq_nil_of_le (by omega)
  rw [this]
  exact ⟨by simp; omega, _, _, rfl, by omega, by omega, (fun h => by omega), Rd.nil⟩
theorem bvs_take (bs : List UInt8) (k : Nat) : (bvs bs).take k = bvs (bs.take k) := by simp [bvs, List.map_take]
theorem bvs_drop (bs : List UInt8) (k : Nat) : (bvs bs).drop k = bvs (bs.drop k) := by simp [bvs, List.map_drop]
end Go.Proofs.Ytdhbaepmbgoobaa
