/- A log in plain lists: what an append leaves of the pages, also where the power goes within it. -/
import Derived.Test.YtdhbaepmbgoobaaWAp
namespace Go.Proofs.Ytdhbaepmbgoobaa
open Go.RowKit
set_option linter.unusedVariables false
set_option maxRecDepth 10000
set_option linter.unusedSimpArgs false
set_option linter.unnecessarySimpa false

/-- The first bytes are the same. -/
def Agree (a : Nat) (o x : List UInt8) : Prop := x.length = o.length ∧ ∀ i < a, x[i]? = o[i]?
/-- A Write that leaves the first bytes. -/
def WOk (a : Nat) (o : List UInt8) (p : Nat) (x : Nat × List UInt8) : Prop := x.1 < p ∧ x.2.length = 64 ∧ ∀ j < 64, x.1 * 64 + j < a → x.2[j]? = o[x.1 * 64 + j]?
theorem Agree.refl (a : Nat) (o : List UInt8) : Agree a o o := ⟨rfl, fun _ _ => rfl⟩
theorem Agree.trans {a : Nat} {o x y : List UInt8} (h : Agree a o x) (k : Agree a x y) : Agree a o y := ⟨k.1.trans h.1, fun i hi => (k.2 i hi).trans (h.2 i hi)⟩
theorem Agree.less {a b : Nat} {o x : List UInt8} (h : Agree a o x) (hb : b ≤ a) : Agree b o x := ⟨h.1, fun i hi => h.2 i (by omega)⟩
theorem agree_spl {a q : Nat} {o x vs : List UInt8} (h : Agree a o x) (hv : ∀ j < vs.length, q + j < a → vs[j]? = o[q + j]?) (hq : q + vs.length ≤ x.length) : Agree a o (spl x q vs) :=
  ⟨by rw [spl_length]; exact h.1, fun i hi => by
    by_cases h1 : q ≤ i ∧ i < q + vs.length
    · obtain ⟨j, rfl⟩ : ∃ j, i = q + j := ⟨i - q, by omega⟩
      rw [spl_in _ _ _ _ (by omega) hq]
      exact hv j (by omega) hi
    · rw [spl_out _ _ _ _ (by omega)]
      exact h.2 i hi⟩
theorem agree_crash1 {a p : Nat} {o s : List UInt8} {x : Nat × List UInt8} (k : Int) (h : Agree a o s) (hx : WOk a o p x) (ho : o.length = p * 64) : Agree a o (crash1 k s x) := by
  obtain ⟨h1, h2, h3⟩ := hx
  have hl1 : (x.2.take 32).length = 32 := by rw [List.length_take]; omega
  have hl2 : (x.2.drop 32).length = 32 := by rw [List.length_drop]; omega
  have g1 : Agree a o (half1 k s x) := by
    unfold half1
    split
    · refine agree_spl h (fun j hj hja => ?_) (by rw [hl1, h.1, ho]; omega)
      rw [hl1] at hj
      rw [List.getElem?_take, if_pos hj]
      exact h3 j (by omega) hja
    · exact h
  unfold crash1 half2
  split
  · refine agree_spl g1 (fun j hj hja => ?_) (by rw [hl2, g1.1, ho]; omega)
    rw [hl2] at hj
    rw [List.getElem?_drop, Nat.add_assoc]
    exact h3 (32 + j) (by omega) (by omega)
  · exact g1
theorem agree_crash {a p : Nat} {o : List UInt8} (ho : o.length = p * 64) (l : List Int) : ∀ (ws : List (Nat × List UInt8)) (i : Nat) (s : List UInt8), Agree a o s → (∀ x ∈ ws, WOk a o p x) → Agree a o (crashS l i ws s)
  | [], i, s, h, _ => h
  | x :: ws, i, s, h, hw => by
    rw [crashS]
    exact agree_crash ho l ws (i + 1) _ (agree_crash1 _ h (hw x (by simp)) ho) (fun y hy => hw y (by simp [hy]))
theorem pageOf_get (b : List UInt8) (j : Nat) (hj : j < b.length) : (pageOf b)[j]? = b[j]? := by unfold pageOf; rw [List.getElem?_append_left hj]
theorem wrote_left0 (st : DS) (n : Nat) (pg : List UInt8) (h : st.left = 0) : (st.wrote n pg).left = 0 := by unfold DS.wrote DS.counted; simp [h]
theorem code_left0 (st : DS) (h : st.left = 0) : st.code = 0 := by unfold DS.code; rw [if_neg (by omega)]
/-- What writing a row leaves. -/
structure WOut (a : Nat) (o : List UInt8) (p : Nat) (st : DS) (k : Nat) (b : List UInt8) (r : DS × Int) : Prop where
  two : r.2 = 0 ∨ r.2 = 15
  syn : r.1.synced = st.synced
  wr : ∀ x ∈ r.1.writes, WOk a o p x
  now : Agree a o r.1.now
  left : st.left = 0 → r.2 = 0 ∧ r.1.left = 0
  ok : r.2 = 0 → r.1.dead = false ∧ (∀ i < k * 64, r.1.now[i]? = st.now[i]?) ∧ ∀ j < b.length, r.1.now[k * 64 + j]? = b[j]?
theorem wchunks_out {a p : Nat} {o : List UInt8} (ho : o.length = p * 64) : ∀ (m : Nat) (st : DS) (k : Nat) (b : List UInt8), b.length ≤ m → st.dead = false → k * 64 + b.length ≤ p * 64 → (∀ x ∈ st.writes, WOk a o p x) → Agree a o st.now →
    (∀ j < b.length, k * 64 + j < a → b[j]? = o[k * 64 + j]?) → (b ≠ [] → a ≤ k * 64 + b.length) → WOut a o p st k b (wchunks m st k b)
  | 0, st, k, b, hm, hd, hp, hw, hn, hb, ha => by
    have : b = [] := List.eq_nil_of_length_eq_zero (by omega)
    subst this
    exact ⟨.inl rfl, rfl, hw, hn, fun h => ⟨rfl, h⟩, fun _ => ⟨hd, fun i _ => rfl, fun j hj => by simp at hj⟩⟩
  | m + 1, st, k, b, hm, hd, hp, hw, hn, hb, ha => by
    rw [wchunks]
    by_cases hz : b = []
    · rw [if_pos hz]
      subst hz
      exact ⟨.inl rfl, rfl, hw, hn, fun h => ⟨rfl, h⟩, fun _ => ⟨hd, fun i _ => rfl, fun j hj => by simp at hj⟩⟩
    · rw [if_neg hz]
      have hb0 : 0 < b.length := List.length_pos_iff.2 hz
      have ha' := ha hz
      have hkp : k < p := by omega
      have hdl : (b.drop 64).length = b.length - 64 := List.length_drop
      have htl : (b.take 64).length = min 64 b.length := List.length_take
      have hpl : (pageOf (b.take 64)).length = 64 := pageOf_length _ (by omega)
      have hpg : ∀ j < 64, j < b.length → (pageOf (b.take 64))[j]? = b[j]? := by
        intro j h1 h2
        rw [pageOf_get _ _ (by omega), List.getElem?_take, if_pos h1]
      have wok : WOk a o p (k, pageOf (b.take 64)) := ⟨hkp, hpl, fun j hj hja => by
        simp only at hja ⊢
        by_cases h2 : j < b.length
        · rw [hpg j hj h2]; exact hb j h2 hja
        · omega⟩
      have hw' : ∀ x ∈ (st.wrote k (pageOf (b.take 64))).writes, WOk a o p x := by
        intro x hx
        rw [show (st.wrote k (pageOf (b.take 64))).writes = st.writes ++ [(k, pageOf (b.take 64))] from rfl, List.mem_append] at hx
        rcases hx with hx | hx
        · exact hw x hx
        · simp at hx; subst hx; exact wok
      have hnl := hn.1
      have hn' : Agree a o (st.wrote k (pageOf (b.take 64))).now := by
        rw [show (st.wrote k (pageOf (b.take 64))).now = spl st.now (k * 64) (pageOf (b.take 64)) from rfl]
        exact agree_spl hn (fun j hj hja => wok.2.2 j (by omega) hja) (by omega)
      have hs1 : ∀ i < k * 64, (st.wrote k (pageOf (b.take 64))).now[i]? = st.now[i]? := by
        intro i hi
        rw [show (st.wrote k (pageOf (b.take 64))).now = spl st.now (k * 64) (pageOf (b.take 64)) from rfl, spl_out _ _ _ _ (by omega)]
      have hs2 : ∀ j < 64, j < b.length → (st.wrote k (pageOf (b.take 64))).now[k * 64 + j]? = b[j]? := by
        intro j h1 h2
        rw [show (st.wrote k (pageOf (b.take 64))).now = spl st.now (k * 64) (pageOf (b.take 64)) from rfl, spl_in _ _ _ _ (by omega) (by omega)]
        exact hpg j h1 h2
      by_cases hc : st.code = 0
      · rw [if_pos hc]
        have hal := wrote_alive st k (pageOf (b.take 64)) hd hc
        by_cases hl : b.length ≤ 64
        · have hd0 : b.drop 64 = [] := List.drop_of_length_le hl
          rw [hd0, wchunks_nil]
          exact ⟨.inl rfl, rfl, hw', hn', fun h => ⟨rfl, wrote_left0 st k _ h⟩, fun _ => ⟨hal, hs1, fun j hj => hs2 j (by omega) hj⟩⟩
        · have ih := wchunks_out ho m (st.wrote k (pageOf (b.take 64))) (k + 1) (b.drop 64) (by omega) hal (by omega) hw' hn' (fun j hj hja => by
            rw [List.getElem?_drop, hb (64 + j) (by omega) (by omega)]
            congr 1; omega) (fun _ => by omega)
          refine ⟨ih.two, ih.syn, ih.wr, ih.now, fun h => ih.left (wrote_left0 st k _ h), fun h => ?_⟩
          obtain ⟨i1, i2, i3⟩ := ih.ok h
          refine ⟨i1, fun i hi => (i2 i (by omega)).trans (hs1 i hi), fun j hj => ?_⟩
          by_cases hj64 : j < 64
          · exact (i2 (k * 64 + j) (by omega)).trans (hs2 j hj64 hj)
          · have h3 := i3 (j - 64) (by omega)
            rw [List.getElem?_drop, show 64 + (j - 64) = j by omega, show (k + 1) * 64 + (j - 64) = k * 64 + j by omega] at h3
            exact h3
      · rw [if_neg hc]
        have h15 : st.code = 15 := by rcases code_two st with h | h; exact absurd h hc; exact h
        exact ⟨.inr h15, rfl, hw', hn', fun h => absurd (code_left0 st h) hc, fun h => absurd h hc⟩
theorem sync_out (s : DS) (hd : s.dead = false) : (s.syncCode = 15 ∧ s.sync.synced = s.synced ∧ s.sync.writes = s.writes ∧ s.sync.now = s.now ∧ s.left = 1) ∨ (s.syncCode = 0 ∧ s.sync.synced = s.now ∧ s.sync.writes = [] ∧ s.sync.now = s.now ∧ s.sync.dead = false ∧ (s.left = 0 → s.sync.left = 0)) := by
  have e1 : s.syncCode = s.code := by unfold DS.syncCode; rw [if_neg (by simp [hd])]
  have e2 : s.sync = if s.left = 1 then s.counted else s.counted.kept.clear := by unfold DS.sync; rw [if_neg (by simp [hd])]
  rw [e1, e2]
  unfold DS.code
  by_cases hl : s.left = 1
  · rw [if_pos hl, if_pos hl]
    exact .inl ⟨rfl, rfl, rfl, rfl, hl⟩
  · rw [if_neg hl, if_neg hl]
    refine .inr ⟨rfl, rfl, rfl, rfl, ?_, fun h => ?_⟩
    · show (s.dead || decide (s.left = 1)) = false
      simp [hd, hl]
    · show (if 0 < s.left then s.left - 1 else s.left) = 0
      rw [h]; rfl
/-- Pages that hold a log of these records. -/
structure Img (x : List UInt8) (p size : Nat) (recs : List (List UInt8)) : Prop where
  len : x.length = p * 64
  room : 64 + size ≤ p * 64
  head : ∀ i < 16, x[i]? = (headB size recs.length)[i]?
  body : ∀ i < size, x[64 + i]? = (recsBytes recs)[i]?
  sz : (recsBytes recs).length = size
  ok : ∀ r ∈ recs, r.length ≤ 65536
theorem Img.agree {o x : List UInt8} {p size : Nat} {recs : List (List UInt8)} (h : Img o p size recs) (k : Agree (64 + size) o x) : Img x p size recs :=
  ⟨k.1.trans h.len, h.room, fun i hi => (k.2 i (by omega)).trans (h.head i hi), fun i hi => (k.2 (64 + i) (by omega)).trans (h.body i hi), h.sz, h.ok⟩
theorem take_get {x y : List UInt8} {a n : Nat} (h : ∀ i < n, x[a + i]? = y[i]?) (hx : a + n ≤ x.length) (hy : y.length = n) : (x.drop a).take n = y := by
  apply List.ext_getElem?
  intro i
  rw [List.getElem?_take, List.getElem?_drop]
  by_cases hi : i < n
  · rw [if_pos hi]; exact h i hi
  · rw [if_neg hi, List.getElem?_eq_none (by omega)]
theorem Img.look {st : DS} {p size : Nat} {recs : List (List UInt8)} (h : Img st.now p size recs) (hp : p ≤ 4096) : st.look = ⟨size, recs.length, recs, false⟩ := by
  have hr := h.room
  have hl := h.len
  have e0 : (pageAt st.now 0).take 16 = headB size recs.length := by
    unfold pageAt
    rw [Nat.zero_mul, List.drop_zero, List.take_take]
    have := take_get (a := 0) (n := 16) (x := st.now) (y := headB size recs.length) (by simpa using h.head) (by omega) (headB_len _ _)
    simpa using this
  have e1 : (pageAt st.now 0).take 8 = le8 size := by
    rw [show (8 : Nat) = min 8 16 from rfl, ← List.take_take, e0]
    unfold headB
    exact List.take_left' (le8_length _)
  have e2 : ((pageAt st.now 0).drop 8).take 8 = le8 (recs.length : Nat) := by
    have : ((pageAt st.now 0).drop 8).take 8 = ((pageAt st.now 0).take 16).drop 8 := by rw [List.drop_take]
    rw [this, e0]
    unfold headB
    exact List.drop_left' (le8_length _)
  have hle := cutL_len recs.length (recsBytes recs)
  rw [cut_whole recs (fun r hr => by have := h.ok r hr; omega)] at hle
  simp only at hle
  have hsz := h.sz
  have z1 : st.size0 = size := by unfold DS.size0; rw [e1, le_le8 _ (by omega) (by omega)]
  have z2 : st.count0 = recs.length := by unfold DS.count0; rw [e2, le_le8 _ (by omega) (by omega)]
  have z3 : st.body.take size = recsBytes recs := by
    unfold DS.body
    exact take_get h.body (by omega) h.sz
  have z4 : st.body.length = p * 64 - 64 := by unfold DS.body; rw [List.length_drop, hl]
  unfold DS.look
  rw [z1, z2, z4, if_neg (by omega), Int.toNat_natCast, Int.toNat_natCast, z3, cut_whole recs (fun r hr => by have := h.ok r hr; omega)]
  simp
theorem img_fresh (p : Nat) (h : 2 ≤ p) : Img (fresh p).now p 0 [] := by
  refine ⟨fresh_len p, by omega, fun i hi => ?_, fun i hi => by omega, rfl, by simp⟩
  unfold fresh
  simp only
  rw [List.getElem?_replicate, if_pos (by omega)]
  have : headB 0 ([] : List (List UInt8)).length = List.replicate 16 0 := by kernel_rfl
  rw [this, List.getElem?_replicate, if_pos hi]
/-- What an append leaves: all is as it is to be; or the power went: then, whatever comes back is the log as it was, or as it is to be. -/
structure Kept (st : DS) (p size : Nat) (recs : List (List UInt8)) (bs : List UInt8) (r : DS × Int) : Prop where
  ex : (r.2 = 0 ∧ r.1.dead = false ∧ r.1.writes = [] ∧ r.1.synced = r.1.now ∧ Img r.1.now p (size + 8 + bs.length) (recs ++ [bs]) ∧ (st.left = 0 → r.1.left = 0)) ∨
    (r.2 = 15 ∧ st.left ≠ 0 ∧ r.1.fine p ∧ r.1.writes.length ≤ p + 1 ∧ ∀ l, Img (r.1.crash l).now p size recs ∨ Img (r.1.crash l).now p (size + 8 + bs.length) (recs ++ [bs]))
theorem wchunks_wl : ∀ (m : Nat) (st : DS) (k : Nat) (b : List UInt8), (wchunks m st k b).1.writes.length * 64 ≤ (st.writes.length + 1) * 64 + b.length
  | 0, st, k, b => by simp only [wchunks]; omega
  | m + 1, st, k, b => by
    rw [wchunks]
    have hdl : (b.drop 64).length = b.length - 64 := List.length_drop
    split
    · simp only; omega
    · rename_i hb
      have hb0 : 0 < b.length := List.length_pos_iff.2 hb
      split
      · have hwl := wrote_wl st k (pageOf (b.take 64))
        obtain ⟨s', hs'⟩ : ∃ s', s' = st.wrote k (pageOf (b.take 64)) := ⟨_, rfl⟩
        rw [← hs'] at hwl ⊢
        clear hs'
        by_cases hl : b.length ≤ 64
        · rw [List.drop_of_length_le hl, wchunks_nil]; simp only; omega
        · exact Nat.le_trans (wchunks_wl m s' (k + 1) (b.drop 64)) (by omega)
      · have hwl := wrote_wl st k (pageOf (b.take 64))
        simp only
        omega
theorem append_out (st : DS) (p size : Nat) (recs : List (List UInt8)) (bs : List UInt8) (hI : Img st.now p size recs) (hsy : st.synced = st.now) (hw : st.writes = []) (hd : st.dead = false) (hp : 2 ≤ p) (hroom : 64 + (size + 8 + bs.length) ≤ p * 64) (hb : bs.length ≤ 65536) :
    Kept st p size recs bs (st.append size recs.length bs) := by
  have hk : (1 + size / 64) * 64 + size % 64 = 64 + size := by omega
  have hlen := hI.len
  have hpl := pageAt_length st.now (1 + size / 64) p hlen (by omega)
  have hrl := recBytes_len bs
  obtain ⟨b0, hb0⟩ : ∃ b0, b0 = st.pagesB size (recBytes bs) := ⟨_, rfl⟩
  have hb0' := hb0
  unfold DS.pagesB at hb0'
  have htl : ((pageAt st.now (1 + size / 64)).take (size % 64)).length = size % 64 := by rw [List.length_take, hpl]; omega
  have hbl : b0.length = size % 64 + (8 + bs.length) := by rw [hb0', List.length_append, htl, hrl]
  have g1 : ∀ j < size % 64, b0[j]? = st.now[(1 + size / 64) * 64 + j]? := by
    intro j hj
    rw [hb0', List.getElem?_append_left (by omega), List.getElem?_take, if_pos hj]
    unfold pageAt
    rw [List.getElem?_take, List.getElem?_drop, if_pos (by omega)]
  have g2 : ∀ j, j < 8 + bs.length → b0[size % 64 + j]? = (recBytes bs)[j]? := by
    intro j hj
    rw [hb0', List.getElem?_append_right (by omega), htl]
    congr 1; omega
  have W := wchunks_out (a := 64 + size) hlen b0.length st (1 + size / 64) b0 (Nat.le_refl _) hd (by omega) (by rw [hw]; simp) (Agree.refl _ _) (fun j hj hja => g1 j (by omega)) (fun _ => by omega)
  have wl := wchunks_wl b0.length st (1 + size / 64) b0
  rw [hw] at wl
  have pok := pages_ok st size (recBytes bs)
  have pno := pages_no st size (recBytes bs)
  rw [← hb0] at pok pno
  obtain ⟨⟨s1, c1⟩, hr⟩ : ∃ r, r = wchunks b0.length st (1 + size / 64) b0 := ⟨_, rfl⟩
  rw [← hr] at W wl pok pno
  have hwl : s1.writes.length ≤ p := by simp only [List.length_nil] at wl; omega
  obtain ⟨w1, w2, w3, w4, w5, w6⟩ := W
  simp only at w1 w2 w3 w4 w5 w6
  have crA : ∀ (s : DS) (l : List Int), s.synced = st.now → s.writes = s1.writes → Img (s.crash l).now p size recs := by
    intro s l h1 h2
    show Img (crashS l 0 s.writes s.synced) p size recs
    rw [h1, h2]
    exact hI.agree (agree_crash hlen l _ 0 _ (Agree.refl _ _) w3)
  rcases w1 with rfl | rfl
  · obtain ⟨hal, n1, n2⟩ := w6 rfl
    have hp1 := pok s1 rfl
    have k1 := append_no st
    have k2 := append_mid st
    have k3 := append_end st
    rcases sync_out s1 hal with ⟨c, y1, y2, y3, y4⟩ | ⟨c, y1, y2, y3, y4, y5⟩
    · -- the power went at the first Sync
      rw [c] at hp1
      rw [k1 _ 15 size recs.length bs hp1 (by decide)]
      refine ⟨.inr ⟨rfl, fun h => ?_, fun x hx => ?_, by simp only; rw [y2]; omega, fun l => .inl (crA _ l (y1.trans (w2.trans hsy)) y2)⟩⟩
      · have := (w5 h).2; omega
      · simp only [y2] at hx; exact ⟨(w3 x hx).1, (w3 x hx).2.1⟩
    · rw [c] at hp1
      have k2 := k2 s1.sync size recs.length bs hp1
      have k3 := k3 s1.sync size recs.length bs hp1
      -- the pages as they are now
      have im1 : Img s1.sync.now p size recs := by rw [y3]; exact hI.agree w4
      have nlen : s1.sync.now.length = p * 64 := im1.len
      have bod : ∀ i < size + 8 + bs.length, s1.sync.now[64 + i]? = (recsBytes (recs ++ [bs]))[i]? := by
        intro i hi
        rw [recsBytes_snoc]
        by_cases h1 : i < size
        · rw [List.getElem?_append_left (by rw [hI.sz]; exact h1)]
          exact im1.body i h1
        · rw [List.getElem?_append_right (by rw [hI.sz]; omega), hI.sz, y3]
          have := n2 (size % 64 + (i - size)) (by omega)
          rw [g2 (i - size) (by omega), show (1 + size / 64) * 64 + (size % 64 + (i - size)) = 64 + i by omega] at this
          exact this
      obtain ⟨hp2, hhp2⟩ : ∃ h, h = headB (size + 8 + bs.length) (recs.length + 1) := ⟨_, rfl⟩
      have hl16 : hp2.length = 16 := by rw [hhp2]; exact headB_len _ _
      have hpl2 : (pageOf hp2).length = 64 := pageOf_length _ (by omega)
      rw [← hhp2] at k2 k3
      obtain ⟨s2, hs2⟩ : ∃ s2, s2 = s1.sync.wrote 0 (pageOf hp2) := ⟨_, rfl⟩
      rw [← hs2] at k2 k3
      have z1 : s2.synced = s1.sync.now := by rw [hs2]; exact y1.trans y3.symm
      have z2 : s2.writes = [(0, pageOf hp2)] := by
        rw [hs2]
        show s1.sync.writes ++ _ = _
        rw [y2]; rfl
      have z3 : s2.now = spl s1.sync.now 0 (pageOf hp2) := by rw [hs2]; show spl s1.sync.now (0 * 64) _ = _; rw [Nat.zero_mul]
      have newI : ∀ x : List UInt8, x.length = p * 64 → (∀ i < 16, x[i]? = hp2[i]?) → (∀ i, 64 ≤ i → x[i]? = s1.sync.now[i]?) → Img x p (size + 8 + bs.length) (recs ++ [bs]) := by
        intro x h1 h2 h3
        refine ⟨h1, by omega, fun i hi => ?_, fun i hi => (h3 (64 + i) (by omega)).trans (bod i hi), ?_, ?_⟩
        · rw [h2 i hi, hhp2, List.length_append]; rfl
        · rw [recsBytes_snoc, List.length_append, hI.sz, hrl]; omega
        · intro r hr
          rw [List.mem_append] at hr
          rcases hr with hr | hr
          · exact hI.ok r hr
          · simp at hr; subst hr; exact hb
      have nowI : Img s2.now p (size + 8 + bs.length) (recs ++ [bs]) := by
        rw [z3]
        refine newI _ (by rw [spl_length]; exact nlen) (fun i hi => ?_) (fun i hi => spl_out _ _ _ _ (by omega))
        have := spl_in (pageOf hp2) s1.sync.now 0 i (by omega) (by omega)
        rw [Nat.zero_add] at this
        rw [this, pageOf_get _ _ (by omega)]
      have crB : ∀ (s : DS) (l : List Int), s.synced = s1.sync.now → s.writes = [(0, pageOf hp2)] → Img (s.crash l).now p size recs ∨ Img (s.crash l).now p (size + 8 + bs.length) (recs ++ [bs]) := by
        intro s l h1 h2
        show Img (crashS l 0 s.writes s.synced) p size recs ∨ Img (crashS l 0 s.writes s.synced) p _ _
        rw [h1, h2]
        show Img (crash1 (pick4 l 0) s1.sync.now (0, pageOf hp2)) p size recs ∨ Img (crash1 (pick4 l 0) s1.sync.now (0, pageOf hp2)) p _ _
        obtain ⟨kk, hkk⟩ : ∃ kk, kk = pick4 l 0 := ⟨_, rfl⟩
        rw [← hkk]
        have tl : ((pageOf hp2).take 32).length = 32 := by rw [List.length_take]; omega
        have dl : ((pageOf hp2).drop 32).length = 32 := by rw [List.length_drop]; omega
        have sec : ∀ (x : List UInt8), x.length = p * 64 → ∀ i, (i < 32 ∨ 64 ≤ i) → (half2 kk x (0, pageOf hp2))[i]? = x[i]? := by
          intro x hx i hi
          unfold half2
          split
          · simp only
            exact spl_out _ _ _ _ (by omega)
          · rfl
        by_cases h13 : kk = 1 ∨ kk = 3
        · right
          have e : half1 kk s1.sync.now (0, pageOf hp2) = spl s1.sync.now 0 ((pageOf hp2).take 32) := by unfold half1; rw [if_pos h13]; simp
          unfold crash1
          rw [e]
          refine newI _ (by rw [half2_length, spl_length]; exact nlen) (fun i hi => ?_) (fun i hi => ?_)
          · rw [sec _ (by rw [spl_length]; exact nlen) i (by omega)]
            have := spl_in ((pageOf hp2).take 32) s1.sync.now 0 i (by omega) (by omega)
            rw [Nat.zero_add] at this
            rw [this, List.getElem?_take, if_pos (by omega), pageOf_get _ _ (by omega)]
          · rw [sec _ (by rw [spl_length]; exact nlen) i (by omega), spl_out _ _ _ _ (by omega)]
        · left
          have e : half1 kk s1.sync.now (0, pageOf hp2) = s1.sync.now := by unfold half1; rw [if_neg h13]
          unfold crash1
          rw [e]
          refine ⟨by rw [half2_length]; exact nlen, hI.room, fun i hi => ?_, fun i hi => ?_, hI.sz, hI.ok⟩
          · rw [sec _ nlen i (by omega)]; exact im1.head i hi
          · rw [sec _ nlen _ (by omega)]; exact im1.body i hi
      have fin2 : ∀ s : DS, s.writes = [(0, pageOf hp2)] → s.fine p := by
        intro s h x hx
        rw [h] at hx
        simp at hx
        subst hx
        exact ⟨by simp only; omega, hpl2⟩
      by_cases hc : s1.sync.code = 0
      · have hal2 : s2.dead = false := by rw [hs2]; exact wrote_alive _ _ _ y4 hc
        rw [k3 hc]
        rcases sync_out s2 hal2 with ⟨c2, u1, u2, u3, u4⟩ | ⟨c2, u1, u2, u3, u4, u5⟩
        · refine ⟨.inr ⟨c2, fun h => ?_, fin2 _ (u2.trans z2), by simp only; rw [u2, z2]; simp, fun l => crB _ l (u1.trans z1) (u2.trans z2)⟩⟩
          have h1 := y5 ((w5 h).2)
          have : s2.left = 0 := by rw [hs2]; exact wrote_left0 _ _ _ h1
          omega
        · refine ⟨.inl ⟨c2, u4, u2, u1.trans u3.symm, by rw [u3]; exact nowI, fun h => u5 ?_⟩⟩
          rw [hs2]
          exact wrote_left0 _ _ _ (y5 ((w5 h).2))
      · rw [k2 hc]
        refine ⟨.inr ⟨rfl, fun h => ?_, fin2 _ z2, by simp only; rw [z2]; simp, fun l => crB _ l z1 z2⟩⟩
        exact hc (code_left0 _ (y5 ((w5 h).2)))
  · have hp1 := pno s1 15 (by decide) rfl
    rw [append_no st s1 15 size recs.length bs hp1 (by decide)]
    refine ⟨.inr ⟨rfl, fun h => ?_, fun x hx => ⟨(w3 x hx).1, (w3 x hx).2.1⟩, by simp only; omega, fun l => .inl (crA _ l (w2.trans hsy) rfl)⟩⟩
    have := (w5 h).1
    omega
end Go.Proofs.Ytdhbaepmbgoobaa
