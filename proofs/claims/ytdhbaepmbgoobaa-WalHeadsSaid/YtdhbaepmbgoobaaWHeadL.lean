/- A head that says what is not there, in plain lists. -/
import Derived.Test.YtdhbaepmbgoobaaWLog
import Derived.Test.YtdhbaepmbgoobaaWScan
namespace Go.Proofs.Ytdhbaepmbgoobaa
open Go.RowKit
set_option linter.unusedVariables false
set_option maxRecDepth 10000
set_option linter.unusedSimpArgs false
set_option linter.unnecessarySimpa false

theorem cut_stuck (rs : List (List UInt8)) (m : Nat) (t : List UInt8) (hl : ∀ r ∈ rs, r.length ≤ 65536) (hm : rs.length ≤ m) (ht : recOk t = false) : cutL m (recsBytes rs ++ t) = (rs, t) := by
  rw [cut_recs rs m t (fun r hr => by have := hl r hr; omega) hm, cutL_stop _ _ ht, List.append_nil]
theorem cut_less (rs : List (List UInt8)) (m : Nat) (t : List UInt8) (hl : ∀ r ∈ rs, r.length ≤ 65536) (hm : m < rs.length) : (cutL m (recsBytes rs ++ t)).2 ≠ [] := by
  have e : recsBytes rs = recsBytes (rs.take m) ++ recsBytes (rs.drop m) := by rw [← recsBytes_app, List.take_append_drop]
  have htl : (rs.take m).length = m := by rw [List.length_take]; omega
  rw [e, List.append_assoc, cut_recs (rs.take m) m _ (fun r hr => by have := hl r (List.mem_of_mem_take hr); omega) (by omega), htl, Nat.sub_self]
  show recsBytes (rs.drop m) ++ t ≠ []
  rw [List.drop_eq_getElem_cons hm, recsBytes_cons]
  intro h
  have := congrArg List.length h
  rw [List.length_append, List.length_append, recBytes_len] at this
  simp at this
theorem stuck_short (l : List UInt8) (hl : l.length ≤ 65536) : recOk ((recBytes l).take (7 + l.length)) = false := by
  have h1 := recBytes_len l
  have hlen : ((recBytes l).take (7 + l.length)).length = 7 + l.length := by rw [List.length_take]; omega
  cases h : recOk ((recBytes l).take (7 + l.length))
  · rfl
  · obtain ⟨k1, k2, k3⟩ := (recOk_iff _).1 h
    rw [hlen] at k1 k3
    have e : recLen ((recBytes l).take (7 + l.length)) = (l.length : Nat) := by
      unfold recLen recBytes
      rw [List.take_take, Nat.min_eq_left (by omega), List.take_left' (le8_length _), le_le8 _ (by omega) (by omega)]
    omega
/-- What is told where the head says S bytes and K records. -/
theorem heads_law (x : List UInt8) (size : Nat) (recs : List (List UInt8)) (hI : Img x 20 size recs) (S K : Nat) (st : DS) (hst : st.now = spl x 0 (headB S K)) (hS1 : S ≤ size + 1) (hS2 : size ≤ S + 1) (hK1 : K ≤ recs.length + 1) (hK2 : recs.length ≤ K + 1) (hsz : size ≤ 1000) :
    (st.look.bad = false ↔ S = size ∧ K = recs.length) ∧ (S = size ∧ K = recs.length → st.look.recs = recs) ∧ (cutL st.body.length (st.body.take st.upto)).1.length = if S < size then recs.length - 1 else recs.length := by
  have hl := hI.len
  have h16 := headB_len S K
  have hnl : st.now.length = 1280 := by rw [hst, spl_length]; omega
  have hp0 : ∀ i < 16, st.now[i]? = (headB S K)[i]? := by
    intro i hi
    have := spl_in (headB S K) x 0 i (by omega) (by omega)
    rw [Nat.zero_add] at this
    rw [hst, this]
  have e0 : (pageAt st.now 0).take 16 = headB S K := by
    unfold pageAt
    rw [Nat.zero_mul, List.drop_zero, List.take_take]
    have := take_get (a := 0) (n := 16) (x := st.now) (y := headB S K) (by simpa using hp0) (by omega) h16
    simpa using this
  have e1 : (pageAt st.now 0).take 8 = le8 S := by
    rw [show (8 : Nat) = min 8 16 from rfl, ← List.take_take, e0]
    unfold headB
    exact List.take_left' (le8_length _)
  have e2 : ((pageAt st.now 0).drop 8).take 8 = le8 K := by
    have : ((pageAt st.now 0).drop 8).take 8 = ((pageAt st.now 0).take 16).drop 8 := by rw [List.drop_take]
    rw [this, e0]
    unfold headB
    exact List.drop_left' (le8_length _)
  have hct := hI.sz
  have hc2 : 8 * recs.length ≤ size := by
    have hle := cutL_len recs.length (recsBytes recs)
    rw [cut_whole recs (fun r hr => by have := hI.ok r hr; omega)] at hle
    simp only at hle
    omega
  have z1 : st.size0 = S := by unfold DS.size0; rw [e1, le_le8 _ (by omega) (by omega)]
  have z2 : st.count0 = K := by unfold DS.count0; rw [e2, le_le8 _ (by omega) (by omega)]
  have z4 : st.body.length = 1216 := by unfold DS.body; rw [List.length_drop, hnl]
  have zu : st.upto = S := by
    unfold DS.upto
    rw [z1, z4, if_neg (by omega), if_neg (by omega), Int.toNat_natCast]
  have hbody : ∀ i < size, st.body[i]? = (recsBytes recs)[i]? := by
    intro i hi
    unfold DS.body
    rw [List.getElem?_drop, hst, spl_out _ _ _ _ (by omega)]
    exact hI.body i hi
  have zl : st.look = ⟨S, K, (cutL K (st.body.take S)).1, !decide ((cutL K (st.body.take S)).2 = []) || ((cutL K (st.body.take S)).1.length : Int) != (K : Int)⟩ := by
    unfold DS.look
    rw [z1, z2, z4, if_neg (by omega), Int.toNat_natCast, Int.toNat_natCast]
  rw [zl, zu, z4]
  simp only
  have bt : st.body.take size = recsBytes recs := by
    have := take_get (a := 0) (n := size) (x := st.body) (y := recsBytes recs) (by simpa using hbody) (by omega) hI.sz
    simpa using this
  have hcase : S = size ∨ S = size + 1 ∨ S + 1 = size := by omega
  rcases hcase with rfl | rfl | hs
  · -- the bytes are right
    rw [bt]
    have hst0 := fun m hm => cut_stuck recs m [] hI.ok hm rfl
    simp only [List.append_nil] at hst0
    refine ⟨?_, fun h => by rw [hst0 K (by omega)], by rw [hst0 1216 (by omega), if_neg (by omega)]⟩
    by_cases hk : recs.length ≤ K
    · rw [hst0 K hk]
      simp
      omega
    · have hn := cut_less recs K [] hI.ok (by omega)
      rw [List.append_nil] at hn
      simp [hn]
      omega
  · -- one byte more
    have hb1 : st.body.take (size + 1) = recsBytes recs ++ [st.body[size]'(by omega)] := by
      rw [List.take_add_one, bt, List.getElem?_eq_getElem (by omega)]; rfl
    have hok : recOk [st.body[size]'(by omega)] = false := by unfold recOk; simp
    rw [hb1]
    have hst0 := fun m hm => cut_stuck recs m [st.body[size]'(by omega)] hI.ok hm hok
    refine ⟨?_, fun h => absurd h.1 (by omega), by rw [hst0 1216 (by omega), if_neg (by omega)]⟩
    by_cases hk : recs.length ≤ K
    · rw [hst0 K hk]
      simp
    · have hn := cut_less recs K [st.body[size]'(by omega)] hI.ok (by omega)
      simp [hn]
  · -- one byte less
    have hne : recs ≠ [] := by
      rintro rfl
      have h0 : (recsBytes ([] : List (List UInt8))).length = 0 := rfl
      omega
    obtain ⟨rs, l, rfl⟩ : ∃ rs l, recs = rs ++ [l] := ⟨recs.dropLast, recs.getLast hne, (List.dropLast_concat_getLast hne).symm⟩
    have hsn := recsBytes_snoc rs l
    have hln := hI.sz
    have hlk := hI.ok
    rw [hsn, List.length_append, recBytes_len] at hln
    have hb1 : st.body.take S = recsBytes rs ++ (recBytes l).take (7 + l.length) := by
      have : st.body.take S = (st.body.take size).take S := by rw [List.take_take, Nat.min_eq_left (by omega)]
      rw [this, bt, hsn, List.take_append, List.take_of_length_le (by omega), show S - (recsBytes rs).length = 7 + l.length by omega]
    have hok := stuck_short l (hlk l (by simp))
    have hst0 := fun m hm => cut_stuck rs m _ (fun r hr => hlk r (by simp [hr])) hm hok
    have htl : ((recBytes l).take (7 + l.length)).length = 7 + l.length := by rw [List.length_take, recBytes_len]; omega
    rw [hb1]
    simp only [List.length_append, List.length_singleton] at hK1 hK2 hc2 ⊢
    refine ⟨?_, fun h => absurd h.1 (by omega), by rw [hst0 1216 (by omega), if_pos (by omega)]; simp⟩
    rw [hst0 K (by omega)]
    have hne2 : (recBytes l).take (7 + l.length) ≠ [] := by
      intro h
      rw [h] at htl
      simp at htl
      omega
    simp [hne2]
    omega
theorem le8_small (S : Nat) (h : S < 65536) : le8 S = [UInt8.ofNat (S % 256), UInt8.ofNat (S / 256), 0, 0, 0, 0, 0, 0] := by
  have hw : IntKind.u64.wrap (S : Int) = S := by
    rw [IntKind.wrap_u64]; omega
  unfold le8
  rw [show List.range 8 = [0, 1, 2, 3, 4, 5, 6, 7] from rfl]
  simp only [List.map_cons, List.map_nil]
  unfold byteAt
  rw [hw]
  have e : ∀ k : Nat, 2 ≤ k → k ≤ 7 → UInt8.ofNat ((S : Int) / 2 ^ (8 * k) % 256).toNat = 0 := by
    intro k h1 h2
    have hp : (65536 : Int) ≤ 2 ^ (8 * k) := by
      have : k = 2 ∨ k = 3 ∨ k = 4 ∨ k = 5 ∨ k = 6 ∨ k = 7 := by omega
      rcases this with rfl | rfl | rfl | rfl | rfl | rfl <;> decide
    rw [Int.ediv_eq_zero_of_lt (by omega) (by omega)]
    rfl
  rw [e 2 (by omega) (by omega), e 3 (by omega) (by omega), e 4 (by omega) (by omega), e 5 (by omega) (by omega), e 6 (by omega) (by omega), e 7 (by omega) (by omega)]
  have e0 : ((S : Int) / 2 ^ (8 * 0) % 256).toNat = S % 256 := by
    rw [show (2 : Int) ^ (8 * 0) = 1 from rfl]; omega
  have e1 : ((S : Int) / 2 ^ (8 * 1) % 256).toNat = S / 256 := by
    rw [show (2 : Int) ^ (8 * 1) = 256 from rfl]; omega
  rw [e0, e1]
theorem head_cells (S K : Nat) (hS : S < 65536) (hK : K < 256) : (((bvs (zeros 16)).set 0 (.int .u8 ((S : Int) % 256))).set 1 (.int .u8 ((S : Int) / 256))).set 8 (.int .u8 (K : Int)) = bvs (headB S K) := by
  unfold headB
  rw [le8_small S hS, le8_small K (by omega)]
  have h1 : u8v (UInt8.ofNat (S % 256)) = .int .u8 ((S : Int) % 256) := by
    have := u8v_ofNat ((S : Int) % 256) (by omega) (by omega)
    rwa [show ((S : Int) % 256).toNat = S % 256 by omega] at this
  have h2 : u8v (UInt8.ofNat (S / 256)) = .int .u8 ((S : Int) / 256) := by
    have := u8v_ofNat ((S : Int) / 256) (by omega) (by omega)
    rwa [show ((S : Int) / 256).toNat = S / 256 by omega] at this
  have h3 : u8v (UInt8.ofNat (K % 256)) = .int .u8 (K : Int) := by
    have := u8v_ofNat ((K : Int)) (by omega) (by omega)
    rwa [show ((K : Int)).toNat = K % 256 by omega] at this
  have h4 : u8v (UInt8.ofNat (K / 256)) = .int .u8 0 := by rw [show K / 256 = 0 by omega]; rfl
  simp only [bvs, List.map_cons, List.map_append, List.map_nil, h1, h2, h3, h4]
  rfl
end Go.Proofs.Ytdhbaepmbgoobaa
