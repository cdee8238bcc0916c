/- Where there is no room nothing is appended: WalFull. -/
import Derived.Test.YtdhbaepmbgoobaaWKn
import Derived.Test.YtdhbaepmbgoobaaWRws
import Derived.Test.YtdhbaepmbgoobaaWithinL
namespace Go.Proofs.Ytdhbaepmbgoobaa
open Go.RowKit
set_option linter.unusedVariables false
set_option maxRecDepth 10000
set_option linter.unusedSimpArgs false
set_option linter.unnecessarySimpa false

theorem Img.count {x : List UInt8} {p size : Nat} {recs : List (List UInt8)} (h : Img x p size recs) : 8 * recs.length ≤ size := by
  have hle := cutL_len recs.length (recsBytes recs)
  rw [cut_whole recs (fun r hr => by have := h.ok r hr; omega)] at hle
  have := h.sz
  simp only at hle
  omega
/-- The loop: the disk holds a log, so much room is left. -/
def FuR (w0 : World) (B g p gl : Nat) (zs : List Int) (left n i : Value) (wr : World) : Prop :=
  ∃ (k : Nat) (recs : List (List UInt8)) (size : Nat) (st : DS), k ≤ zs.length ∧ k ≤ 40 ∧ i = .int .i64 k ∧ n = .int .i64 recs.length ∧ left = .int .i64 (64 * ((p : Int) - 1) - (size : Int)) ∧ At w0 wr B g p st [gl] ∧ Blk wr gl (LG g size recs.length) 86 ∧ Calm st ∧ Img st.now p size recs

set_option maxRecDepth 100000 in
set_option maxHeartbeats 8000000 in
theorem WalFull_walk (zp : Int) (As : Option Addr) (cs : Nat) (zs : List Int) (w : World) (hzp : -9223372036854775808 ≤ zp ∧ zp ≤ 9223372036854775807)
    (hs : Sl w w.heap.size 1 (.slice As zs.length cs) zs.length (zs.map (Value.int .i64))) (hzs : ∀ z ∈ zs, -9223372036854775808 ≤ z ∧ z ≤ 9223372036854775807) :
    Calls Try.prog 3 #[.int .i64 zp, .slice As zs.length cs] w fun e w' => e = .returned (.bool true) ∧ Below w.heap.size w w' := by
  have KN := Lib.hid (known_any w)
  obtain ⟨p, hp⟩ : ∃ p : Nat, 2 + zp % 10 = (p : Int) := ⟨(2 + zp % 10).toNat, by omega⟩
  have hp2 : 2 ≤ p ∧ p ≤ 12 := by omega
  have hpI : (2 : Int) ≤ p ∧ (p : Int) ≤ 12 := by omega
  have HP := Lib.hid hp
  have hpe : 0 ≤ zp % 10 ∧ zp % 10 ≤ 9 := by omega
  have hzl : zs.length ≤ 9223372036854775807 := by
    obtain ⟨_, _, _, ee, h1, h2, _⟩ := hs
    injection ee with _ _ e3
    subst e3
    unfold maxLen at h2
    omega
  have WI := Lib.hid fun (W : World) => within_any zp 10 W hzp.1 hzp.2 (by omega) (by omega)
  have HS := Lib.hid (And.intro hs hzs)
  clear hp hs hzs hzp
  go_enter Try.func3, Try.ntmps3
  go_wp2_with fail
  refine KN.out.mono ?_
  rintro e w1 ⟨rfl, t1⟩
  have H1 := Lib.hid (Turns.below (B := w.heap.size) t1 (Nat.le_refl _) (by simp))
  clear KN t1
  go_wp2_with fail
  refine (WI.out w1).mono ?_
  rintro e ww ⟨rfl, rfl⟩
  go_wp2_with fail
  rw [HP.out]
  refine (New_at (w0 := w) (w := w1) p hp2.1 (by omega) H1.out).mono ?_
  rintro e w2 ⟨B, g, rfl, a2, b2⟩
  have OP := Lib.hid (Open_img a2 rfl (img_fresh p hp2.1))
  clear a2 b2
  go_wp2_with fail
  refine OP.out.mono ?_
  rintro e w3 ⟨gl, A, n, c, rfl, hgx, a3, s3, bl3, sls3⟩
  have H3 := Lib.hid (And.intro a3 bl3)
  clear a3 s3 bl3 sls3 OP hgx
  go_wp2_with fail
  go_loopw [10, 11, 12] (fun left n i wr => FuR w B g p gl zs left n i wr) (fun _ _ i _ => 40 - (intOf i).toNat)
  case atStart => exact ⟨0, [], 0, fresh p, by omega, by omega, rfl, rfl, by simp, H3.out.1, H3.out.2, calm_fresh p, img_fresh p hp2.1⟩
  case round =>
    obtain ⟨k, recs, size, st, hk1, hk2, rfl, rfl, rfl, at4, bl4, cm4, im4⟩ := hrel
    obtain ⟨Y, hY⟩ : ∃ Y, Y = wr := ⟨_, rfl⟩
    subst hY
    have hct := im4.count
    have hrm := im4.room
    have hrmI : (64 : Int) + size ≤ p * 64 := by omega
    have hrl : recs.length ≤ 1000 := by omega
    by_cases hk : k < zs.length ∧ k < 40
    · obtain ⟨hka, hkb⟩ := hk
      have hkI : (k : Int) < zs.length := by omega
      have hkJ : (k : Int) < 40 := by omega
      have hsl := at4.arg HS.out.1
      obtain ⟨_, _, _, ee, h1, _, _, hrd⟩ := hsl
      injection ee with e1 _ e3
      subst e1 e3
      obtain ⟨b5, o5, e5, hb5, hc5⟩ := hrd.at_ (k := k) (by simpa using hka)
      subst e5
      rw [List.getElem_map] at hc5
      obtain ⟨z, hz⟩ : ∃ z, z = zs[k] := ⟨_, rfl⟩
      rw [← hz] at hc5
      have hzb := HS.out.2 z (by rw [hz]; exact List.getElem_mem hka)
      obtain ⟨m, hm⟩ : ∃ m : Nat, z % 130 = (m : Int) := ⟨(z % 130).toNat, by omega⟩
      have hm1 : m < 130 := by omega
      have W2 := within_any z 130 Y hzb.1 hzb.2 (by omega) (by omega)
      rw [hm] at W2
      replace W2 := Lib.hid W2
      clear hrd hz hm hzb h1
      go_wp2_with fail
      refine W2.out.mono ?_
      rintro e ww ⟨rfl, rfl⟩
      have hmk := run_make_u8 m (by omega) Y
      obtain ⟨Y2, hY2⟩ : ∃ Y2, Y2 = Y.alloc (.cells (bvs (zeros m)).toArray 5) := ⟨_, rfl⟩
      rw [← hY2] at hmk
      have t5 : Turns [] Y Y2 := by rw [hY2]; exact (Turns.refl _ _).alloc _
      have a5 := at4.turn t5 (by simp)
      have bl5 := bl4.turns t5 (by simp)
      have hsl := Sl.new Y (bvs (zeros m)).toArray 5 m 1 (by simp [bvs, zeros]) (by simp only [maxLen]; omega)
      rw [← hY2] at hsl
      have hyz : Y.heap.size + 1 = Y2.heap.size := by rw [hY2]; simp
      rw [hyz] at hsl
      have hzl2 : (zeros m).length = m := zeros_length m
      have HI := Lib.hid (And.intro cm4 im4)
      by_cases hfit : size + 8 + m ≤ (p - 1) * 64
      · have hsl2 : Sl Y2 Y2.heap.size 1 (.slice (some ⟨Y.heap.size, 0, none⟩) (zeros m).length m) (zeros m).length (bvs (zeros m)) := by rw [hzl2]; exact hsl
        have AP := Append_calm a5 (by simp) size recs bl5 (some ⟨Y.heap.size, 0, none⟩) m (zeros m) hsl2 cm4 im4 (by omega) (by omega)
        rw [hzl2] at AP
        replace AP := Lib.hid AP
        have hfI : (m : Int) + 8 ≤ 64 * ((p : Int) - 1) - size := by omega
        clear a5 bl5 hsl hsl2 hY2 hyz t5 at4 bl4 cm4 im4 W2
        go_wp2_with fail
        refine AP.out.mono ?_
        rintro e y6 ⟨rfl, ⟨st6, a6, k6, i6⟩, s6, bl6⟩
        have CO := Lib.hid (Count_any y6 gl g _ _ bl6)
        have HF := Lib.hid (And.intro a6 (And.intro bl6 (And.intro k6 i6)))
        clear AP a6 k6 i6 s6 bl6 hzl2
        go_wp2_with fail
        refine CO.out.mono ?_
        rintro e ww ⟨rfl, rfl⟩
        go_wp2_with fail
        go_roundw
        case rel => exact ⟨k + 1, recs ++ [zeros m], size + 8 + m, st6, by omega, by omega, by go_num, by simp, by (congr 1; omega), HF.out.1, by simpa [zeros_length] using HF.out.2.1, HF.out.2.2.1, by simpa [zeros_length] using HF.out.2.2.2⟩
        case measure => (simp [intOf] <;> omega)
      · have AP := Lib.hid (Append_full a5 gl size recs.length bl5 (some ⟨Y.heap.size, 0, none⟩) m m (by omega) (by omega) (by omega))
        have hfI : 64 * ((p : Int) - 1) - size < (m : Int) + 8 := by omega
        have HF := Lib.hid (And.intro a5 bl5)
        clear a5 bl5 hsl hY2 hyz t5 at4 bl4 cm4 im4 W2 hzl2
        go_wp2_with fail
        refine AP.out.mono ?_
        rintro e ww ⟨rfl, rfl⟩
        go_wp2_with fail
        go_roundw
        case rel => exact ⟨k + 1, recs, size, st, by omega, by omega, by go_num, rfl, rfl, HF.out.1, HF.out.2, HI.out.1, HI.out.2⟩
        case measure => (simp [intOf] <;> omega)
    · have OP := Lib.hid (Open_img at4 cm4.dead im4)
      clear at4 bl4 cm4 im4
      by_cases hka : k < zs.length
      · have hkI : (k : Int) < zs.length := by omega
        obtain rfl : k = 40 := by omega
        go_wp2_with fail
        refine OP.out.mono ?_
        rintro e w9 ⟨gl9, A9, n9, c9, rfl, hgx, a9, s9, bl9, sls9⟩
        obtain rfl : recs.length = n9 := by obtain ⟨_, h, _⟩ := sls9; exact h
        have HF := Lib.hid a9.bel
        clear a9 s9 bl9 sls9 OP hgx
        go_wp2_with fail
        go_ret
        exact ⟨rfl, HF.out⟩
      · obtain rfl : k = zs.length := by omega
        go_wp2_with fail
        refine OP.out.mono ?_
        rintro e w9 ⟨gl9, A9, n9, c9, rfl, hgx, a9, s9, bl9, sls9⟩
        obtain rfl : recs.length = n9 := by obtain ⟨_, h, _⟩ := sls9; exact h
        have HF := Lib.hid a9.bel
        clear a9 s9 bl9 sls9 OP hgx
        go_wp2_with fail
        go_ret
        exact ⟨rfl, HF.out⟩
end Go.Proofs.Ytdhbaepmbgoobaa
