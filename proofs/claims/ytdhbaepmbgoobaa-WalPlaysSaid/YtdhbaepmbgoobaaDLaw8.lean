/- Pages of a state, in plain lists. -/
import Derived.Test.YtdhbaepmbgoobaaAt8
namespace Go.Proofs.Ytdhbaepmbgoobaa
open Go.RowKit
set_option linter.unusedVariables false
set_option maxRecDepth 10000
set_option linter.unusedSimpArgs false
set_option linter.unnecessarySimpa false

theorem fresh_page (p n : Nat) (h : n < p) : pageAt (fresh p).now n = zeros 64 := by
  unfold pageAt fresh zeros
  apply List.ext_getElem?
  intro k
  simp only [List.getElem?_take, List.getElem?_drop, List.getElem?_replicate]
  by_cases hk : k < 64
  · rw [if_pos hk, if_pos (by omega), if_pos hk]
  · rw [if_neg hk, if_neg hk]
theorem pageAt_length (l : List UInt8) (n p : Nat) (hl : l.length = p * 64) (hn : n < p) : (pageAt l n).length = 64 := by
  unfold pageAt; rw [List.length_take, List.length_drop]; omega
theorem pageAt_spl (l : List UInt8) (n p : Nat) (pg : List UInt8) (hl : l.length = p * 64) (hn : n < p) (hpg : pg.length = 64) : pageAt (spl l (n * 64) pg) n = pg := by
  unfold pageAt
  apply List.ext_getElem?
  intro k
  rw [List.getElem?_take, List.getElem?_drop]
  by_cases hk : k < 64
  · rw [if_pos hk, spl_in _ _ _ _ (by omega) (by omega)]
  · rw [if_neg hk, List.getElem?_eq_none (by omega)]
/-- What is written within one page leaves the others. -/
theorem pageAt_other (l : List UInt8) (n m o : Nat) (pg : List UInt8) (hnm : n ≠ m) (hpg : o + pg.length ≤ 64) : pageAt (spl l (n * 64 + o) pg) m = pageAt l m := by
  unfold pageAt
  apply List.ext_getElem?
  intro k
  rw [List.getElem?_take, List.getElem?_take, List.getElem?_drop, List.getElem?_drop]
  by_cases hk : k < 64
  · rw [if_pos hk, if_pos hk, spl_out _ _ _ _ (by rcases Nat.lt_or_gt_of_ne hnm with h | h <;> omega)]
  · rw [if_neg hk, if_neg hk]
theorem pageAt_spl_ne (l : List UInt8) (n m : Nat) (pg : List UInt8) (hnm : n ≠ m) (hpg : pg.length = 64) : pageAt (spl l (n * 64) pg) m = pageAt l m := pageAt_other l n m 0 pg hnm (by omega)
theorem page_mid (l : List UInt8) (n p o : Nat) (h : List UInt8) (hl : l.length = p * 64) (hn : n < p) (hh : o + h.length ≤ 64) : pageAt (spl l (n * 64 + o) h) n = (pageAt l n).take o ++ h ++ (pageAt l n).drop (o + h.length) := by
  have hpl := pageAt_length l n p hl hn
  apply List.ext_getElem?
  intro k
  by_cases h1 : k < o
  · rw [List.append_assoc, List.getElem?_append_left (by rw [List.length_take]; omega), List.getElem?_take, if_pos h1]
    unfold pageAt
    rw [List.getElem?_take, List.getElem?_take, List.getElem?_drop, List.getElem?_drop, if_pos (by omega), if_pos (by omega), spl_out _ _ _ _ (by omega)]
  · by_cases h2 : k < o + h.length
    · rw [List.getElem?_append_left (by rw [List.length_append, List.length_take]; omega), List.getElem?_append_right (by rw [List.length_take]; omega), List.length_take, hpl, Nat.min_eq_left (by omega)]
      unfold pageAt
      rw [List.getElem?_take, List.getElem?_drop, if_pos (by omega), show n * 64 + k = n * 64 + o + (k - o) by omega, spl_in _ _ _ _ (by omega) (by omega)]
    · rw [List.getElem?_append_right (by rw [List.length_append, List.length_take]; omega), List.length_append, List.length_take, hpl, Nat.min_eq_left (by omega), List.getElem?_drop]
      unfold pageAt
      rw [List.getElem?_take, List.getElem?_take, List.getElem?_drop, List.getElem?_drop, show o + h.length + (k - (o + h.length)) = k by omega]
      by_cases hk : k < 64
      · rw [if_pos hk, if_pos hk, spl_out _ _ _ _ (by omega)]
      · rw [if_neg hk, if_neg hk]
/-- The first half of a page; the second. -/
theorem page_first (l : List UInt8) (n p : Nat) (h : List UInt8) (hl : l.length = p * 64) (hn : n < p) (hh : h.length = 32) : pageAt (spl l (n * 64) h) n = h ++ (pageAt l n).drop 32 := by
  have e := page_mid l n p 0 h hl hn (by omega)
  rw [Nat.add_zero] at e
  rw [e, hh]; simp
theorem page_second (l : List UInt8) (n p : Nat) (h : List UInt8) (hl : l.length = p * 64) (hn : n < p) (hh : h.length = 32) : pageAt (spl l (n * 64 + 32) h) n = (pageAt l n).take 32 ++ h := by
  have hpl := pageAt_length l n p hl hn
  rw [page_mid l n p 32 h hl hn (by omega), hh, List.drop_of_length_le (by omega), List.append_nil]
/-- The power stays: what the operations leave, written out. -/
theorem wrote_ok (st : DS) (n : Nat) (pg : List UInt8) (hl : st.left = 0) (hd : st.dead = false) : st.wrote n pg = ⟨0, false, st.synced, spl st.now (n * 64) pg, st.writes ++ [(n, pg)]⟩ := by
  unfold DS.wrote DS.counted
  simp only [hl, hd]
  rfl
theorem sync_ok (st : DS) (hl : st.left = 0) (hd : st.dead = false) : st.sync = ⟨0, false, st.now, st.now, []⟩ := by
  unfold DS.sync
  rw [if_neg (by simp [hd]), if_neg (by omega)]
  unfold DS.clear DS.kept DS.counted
  simp only [hl, hd]
  rfl
theorem code_ok (st : DS) (hl : st.left = 0) : st.code = 0 := by unfold DS.code; rw [if_neg (by omega)]
theorem syncCode_ok (st : DS) (hl : st.left = 0) (hd : st.dead = false) : st.syncCode = 0 := by unfold DS.syncCode; rw [if_neg (by simp [hd]), code_ok st hl]
theorem fresh_ok (p : Nat) : fresh p = ⟨0, false, (fresh p).now, (fresh p).now, []⟩ := rfl
theorem fresh_len (p : Nat) : (fresh p).now.length = p * 64 := by simp [fresh]
theorem wrote_left (st : DS) (n : Nat) (pg : List UInt8) (hl : st.left = 0) (hd : st.dead = false) : (st.wrote n pg).left = 0 := by rw [wrote_ok st n pg hl hd]
theorem wrote_dead (st : DS) (n : Nat) (pg : List UInt8) (hl : st.left = 0) (hd : st.dead = false) : (st.wrote n pg).dead = false := by rw [wrote_ok st n pg hl hd]
theorem wrote_now (st : DS) (n : Nat) (pg : List UInt8) (hl : st.left = 0) (hd : st.dead = false) : (st.wrote n pg).now = spl st.now (n * 64) pg := by rw [wrote_ok st n pg hl hd]
theorem wrote_synced (st : DS) (n : Nat) (pg : List UInt8) (hl : st.left = 0) (hd : st.dead = false) : (st.wrote n pg).synced = st.synced := by rw [wrote_ok st n pg hl hd]
theorem wrote_writes (st : DS) (n : Nat) (pg : List UInt8) (hl : st.left = 0) (hd : st.dead = false) : (st.wrote n pg).writes = st.writes ++ [(n, pg)] := by rw [wrote_ok st n pg hl hd]
/-- A page's worth of bytes laid over noughts. -/
theorem laid_page (bs : List UInt8) (h : bs.length ≤ 64) : spl (bvs (zeros 64)) 0 (List.take (min bs.length 64 * 1) (bvs bs)) = bvs (pageOf bs) := by
  rw [show min bs.length 64 * 1 = (bvs bs).length by rw [bvs_length]; omega, List.take_length]
  unfold bvs
  rw [← spl_map]
  congr 1
  exact spl_page bs h
end Go.Proofs.Ytdhbaepmbgoobaa
