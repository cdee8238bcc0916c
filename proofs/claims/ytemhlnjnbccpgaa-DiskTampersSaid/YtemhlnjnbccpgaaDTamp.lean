/- The law DiskTampers, walked. -/
import Derived.Test.YtemhlnjnbccpgaaDLaw
import Derived.Test.YtemhlnjnbccpgaaWithinL
import Derived.Test.YtemhlnjnbccpgaaRegl
namespace Go.Proofs.Ytemhlnjnbccpgaa
open Go.RowKit
set_option linter.unusedVariables false
set_option linter.unusedSimpArgs false
set_option linter.unnecessarySimpa false

theorem crashS_nil : ∀ (ws : List (Nat × List UInt8)) (i : Nat) (s : List UInt8), crashS [] i ws s = s
  | [], _, _ => rfl
  | x :: ws, i, s => by
    rw [crashS, show pick4 [] i = 0 from rfl]
    unfold crash1 half1 half2
    rw [if_neg (by omega), if_neg (by omega)]
    exact crashS_nil ws (i + 1) s
def tst0 (p : Nat) (synced : Bool) : DS := if synced = true then ((fresh 5).wrote p (pageOf [1, 2, 3])).sync else (fresh 5).wrote p (pageOf [1, 2, 3])
def tst (p a : Nat) (b : List UInt8) (synced : Bool) : DS := (tst0 p synced).tamper p a b
def tst2 (p a : Nat) (b : List UInt8) (synced : Bool) : DS := (tst p a b synced).crash []
theorem tst0_len (p : Nat) (synced : Bool) : (tst0 p synced).now.length = 5 * 64 ∧ (tst0 p synced).synced.length = 5 * 64 ∧ (tst0 p synced).dead = false ∧ (tst0 p synced).left = 0 := by
  unfold tst0
  split
  · rw [sync_ok _ (wrote_left _ _ _ rfl rfl) (wrote_dead _ _ _ rfl rfl), wrote_now _ _ _ rfl rfl]
    exact ⟨by rw [spl_length]; exact fresh_len 5, by rw [spl_length]; exact fresh_len 5, rfl, rfl⟩
  · refine ⟨by rw [wrote_now _ _ _ rfl rfl, spl_length]; exact fresh_len 5, by rw [wrote_synced _ _ _ rfl rfl]; exact fresh_len 5, wrote_dead _ _ _ rfl rfl, wrote_left _ _ _ rfl rfl⟩
theorem tst_dead (p a : Nat) (b : List UInt8) (synced : Bool) : (tst p a b synced).dead = false := (tst0_len p synced).2.2.1
theorem tst_cell (p a : Nat) (b : List UInt8) (synced : Bool) (hp : p < 5) (ha : a + b.length ≤ 64) (j : Nat) (hj : j < b.length) : (pageAt (tst p a b synced).now p)[a + j]? = some b[j] := by
  have e : (tst p a b synced).now = spl (tst0 p synced).now (p * 64 + a) b := rfl
  rw [e, page_mid _ _ 5 _ _ (tst0_len p synced).1 hp ha]
  have hl := pageAt_length (tst0 p synced).now p 5 (tst0_len p synced).1 hp
  rw [List.append_assoc, List.getElem?_append_right (by rw [List.length_take]; omega), List.length_take, hl, Nat.min_eq_left (by omega), Nat.add_sub_cancel_left, List.getElem?_append_left hj, List.getElem?_eq_getElem hj]
theorem tst2_cell (p a : Nat) (b : List UInt8) (synced : Bool) (hp : p < 5) (ha : a + b.length ≤ 64) (j : Nat) (hj : j < b.length) : (pageAt (tst2 p a b synced).now p)[a + j]? = some b[j] := by
  have e : (tst2 p a b synced).now = spl (tst0 p synced).synced (p * 64 + a) b := crashS_nil _ _ _
  rw [e, page_mid _ _ 5 _ _ (tst0_len p synced).2.1 hp ha]
  have hl := pageAt_length (tst0 p synced).synced p 5 (tst0_len p synced).2.1 hp
  rw [List.append_assoc, List.getElem?_append_right (by rw [List.length_take]; omega), List.length_take, hl, Nat.min_eq_left (by omega), Nat.add_sub_cancel_left, List.getElem?_append_left hj, List.getElem?_eq_getElem hj]
/-- The Writes of the law's disk. -/
theorem tst_fine (p a : Nat) (b : List UInt8) (synced : Bool) (hp : p < 5) : (tst p a b synced).fine 5 ∧ (tst p a b synced).writes.length ≤ 1000000 := by
  have e : (tst p a b synced).writes = (tst0 p synced).writes := rfl
  unfold DS.fine
  rw [e]
  unfold tst0
  split
  · rw [sync_ok _ (wrote_left _ _ _ rfl rfl) (wrote_dead _ _ _ rfl rfl)]
    exact ⟨(by intro x hx; cases hx), by simp⟩
  · rw [wrote_writes _ _ _ rfl rfl]
    exact ⟨(by intro x hx; rcases List.mem_singleton.1 hx with rfl; exact ⟨hp, rfl⟩), by show 1 ≤ _; omega⟩
theorem own_arg {w0 : World} {n c m : Nat} {A : Option Addr} {xs : List Value} {X : List Nat} (h : Sl w0 w0.heap.size 1 (.slice A n c) m xs) (hm : 0 < m) : ∀ x, (Value.slice A n c).ownBlock = some x → x ∈ X ∨ x < w0.heap.size := by
  intro x hx
  obtain ⟨hl, A', c', he, _, _, _, hr⟩ := h
  injection he with e1 _ _
  subst e1
  obtain ⟨b, off, rfl, hb, _⟩ := hr (by intro e; subst e; simp at hl; omega)
  simp only [Value.ownBlock, Option.some.injEq] at hx
  subst hx
  exact .inr hb
/-- A part of a page that was read, as a slice. -/
theorem sl_part {w : World} {g a n c : Nat} {b : List UInt8} (hn : b.length = n) (hpos : 0 < n) (hc : n ≤ c) (hm : c ≤ maxLen) (hg : g < w.heap.size) (h : ∀ j (hj : j < b.length), w.cell? ⟨g, a + j, none⟩ = some (.int .u8 (b[j].toNat : Int))) : Sl w w.heap.size 1 (.slice (some ⟨g, a, none⟩) n c) n (bvs b) := by
  refine ⟨by rw [bvs_length]; omega, _, _, rfl, hc, hm, (fun h => by cases h), fun _ => ⟨g, a, rfl, hg, fun j u hu => ?_⟩⟩
  have hj : j < b.length := by
    have := (List.getElem?_eq_some_iff.1 hu).1
    rwa [bvs_length] at this
  rw [h j hj, ← hu]
  simp [bvs, u8v, List.getElem?_eq_getElem hj]

set_option maxRecDepth 100000 in
set_option maxHeartbeats 4000000 in
theorem DiskTampers_walk (zp za : Int) (Ab : Option Addr) (n cb : Nat) (b : List UInt8) (synced : Bool) (w : World) (hzp : -9223372036854775808 ≤ zp ∧ zp ≤ 9223372036854775807) (hza : -9223372036854775808 ≤ za ∧ za ≤ 9223372036854775807)
    (hb : Sl w w.heap.size 1 (.slice Ab n cb) n (bvs b)) :
    Calls Try.prog 8 #[.int .i64 zp, .int .i64 za, .slice Ab n cb, .bool synced] w fun e w' => e = .returned (.bool true) ∧ Below w.heap.size w w' := by
  have KN := Lib.hid (known_any w)
  have mb : n ≤ 9223372036854775807 := by
    obtain ⟨_, _, _, ee, h1, h2, _⟩ := hb
    injection ee with _ _ e3
    subst e3
    unfold maxLen at h2; omega
  have lb := hb.1
  rw [bvs_length] at lb
  by_cases h0 : n = 0
  · subst h0
    clear hb lb
    go_enter Try.func8, Try.ntmps8
    go_wp2_with fail
    refine KN.out.mono ?_
    rintro e w1 ⟨rfl, bel1⟩
    clear KN
    go_wp2_with fail
    go_ret
    exact ⟨rfl, bel1⟩
  have hn0 : ((n : Int) == 0) = false := by simpa using h0
  by_cases hb64 : 64 < n
  · clear hb lb h0
    go_enter Try.func8, Try.ntmps8
    go_wp2_with fail
    refine KN.out.mono ?_
    rintro e w1 ⟨rfl, bel1⟩
    clear KN
    go_wp2_with fail
    go_ret
    exact ⟨rfl, bel1⟩
  have hbl : b.length = n := by omega
  have hbl' := Lib.hid hbl
  have hn64 : n ≤ 64 := by omega
  have hpos : 0 < n := by omega
  obtain ⟨p, hp⟩ : ∃ p : Nat, zp % 5 = p := ⟨(zp % 5).toNat, by omega⟩
  have hp5 : p < 5 := by omega
  have hmod := Int.emod_lt_of_pos za (show (0 : Int) < 65 - n by omega)
  have hmod0 := Int.emod_nonneg za (show (65 - n : Int) ≠ 0 by omega)
  obtain ⟨a, ha⟩ : ∃ a : Nat, za % (65 - (n : Int)) = a := ⟨(za % (65 - (n : Int))).toNat, by omega⟩
  have ha64 : a + n ≤ 64 := by omega
  have W1 := fun W => within_any zp 5 W hzp.1 hzp.2 (by omega) (by omega)
  have W2 := fun W => within_any za (65 - (n : Int)) W hza.1 hza.2 (by omega) (by omega)
  rw [hp] at W1
  rw [ha] at W2
  have W1' := Lib.hid W1
  have W2' := Lib.hid W2
  clear W1 W2 hp ha hmod hmod0 h0 lb hbl
  go_enter Try.func8, Try.ntmps8
  go_wp2_with fail
  refine KN.out.mono ?_
  rintro e w1 ⟨rfl, bel1⟩
  clear KN
  have NW := Lib.hid (New_at 5 (by omega) (by omega) bel1)
  go_wp2_with fail
  refine NW.out.mono ?_
  rintro e w2 ⟨B, g, rfl, hA2, -⟩
  clear NW bel1
  go_wp2_with fail
  refine (W1'.out w2).mono ?_
  rintro e ww ⟨rfl, rfl⟩
  go_wp2_with fail
  refine (W2'.out w2).mono ?_
  rintro e ww ⟨rfl, rfl⟩
  clear W1' W2'
  have hA2' := hA2.alloc (.cells #[.int .u8 1, .int .u8 2, .int .u8 3] 5)
  have sl3 := (Sl.new w2 #[.int .u8 1, .int .u8 2, .int .u8 3] 5 3 1 rfl (by simp [maxLen])).more (B' := (w2.alloc (.cells #[.int .u8 1, .int .u8 2, .int .u8 3] 5)).heap.size) (by simp)
  have WR := Lib.hid (Write_at hA2' p _ 3 [1, 2, 3] sl3 (by omega) (by decide) rfl (by show 0 ≤ _; omega))
  clear sl3 hA2
  go_wp2_with fail
  refine WR.out.mono ?_
  rintro e w3 ⟨rfl, hA3, -⟩
  clear WR hA2'
  cases synced
  · have hA4 : At w w3 B g 5 (tst0 p false) [] := hA3.sub (by simp)
    clear hA3
    have TM := Lib.hid (Tamper_at hA4 p a _ b (by rw [hbl'.out]; exact hA4.arg hb) (own_arg hb (by omega)) hp5 (by omega) (by rw [hbl'.out]; omega))
    go_wp2_with fail
    refine TM.out.mono ?_
    rintro e w5 ⟨rfl, hA5, -⟩
    have hA5' : At w w5 B g 5 (tst p a b false) [] := hA5.sub (by simp)
    clear TM hA5 hA4
    have RD := Lib.hid (Read_at hA5' p hp5 (tst_dead p a b false))
    go_wp2_with fail
    refine RD.out.mono ?_
    rintro e w6 ⟨gx, cx, rfl, -, hcx, hmx, hx, hA6, -⟩
    clear RD hA5'
    have slx : Sl w6 w6.heap.size 1 (.slice (some ⟨gx, a, none⟩) n (cx - a)) n (bvs b) := sl_part hbl'.out hpos (by omega) (by omega) (hA6.side gx (by simp)).2 (fun j hj => (hx _ _ (tst_cell p a b false hp5 (by rw [hbl'.out]; exact ha64) j hj)).1)
    have CR := Lib.hid (Crash_at hA6 none 0 [] (tst_fine p a b false hp5).1 (tst_fine p a b false hp5).2 Sl.nil (by simp) (by simp))
    clear hx
    go_wp2_with fail
    refine CR.out.mono ?_
    rintro e w7 ⟨rfl, hA7, sm7⟩
    clear CR hA6
    have slx := sl_same slx sm7 (by simp)
    have hA7' : At w w7 B g 5 (tst2 p a b false) [gx] := hA7
    clear hA7 sm7
    have RD := Lib.hid (Read_at hA7' p hp5 rfl)
    go_wp2_with fail
    refine RD.out.mono ?_
    rintro e w9 ⟨gy, cy, rfl, -, hcy, hmy, hy, hA9, sm9⟩
    clear RD hA7'
    have slx := sl_same slx sm9 (by simp)
    have sly : Sl w9 w9.heap.size 1 (.slice (some ⟨gy, a, none⟩) n (cy - a)) n (bvs b) := sl_part hbl'.out hpos (by omega) (by omega) (hA9.side gy (by simp)).2 (fun j hj => (hy _ _ (tst2_cell p a b false hp5 (by rw [hbl'.out]; exact ha64) j hj)).1)
    have hA10 := hA9.drew
    have bel := hA10.bel
    have hS : (fun W => Sl W w9.heap.size 1 (.slice (some ⟨gx, a, none⟩) n (cx - a)) n (bvs b) ∧ Sl W w9.heap.size 1 (.slice (some ⟨gy, a, none⟩) n (cy - a)) n (bvs b) ∧ Sl W w9.heap.size 1 (.slice Ab n cb) n (bvs b)) w9.drew := ⟨slx.drew, sly.drew, (hA9.arg hb).drew⟩
    have TN1 := Lib.hid (Tamper_no hA10 n p (65 - (n : Int)) Ab cb mb (by unfold tamperOk; omega))
    have TN2 := Lib.hid (Tamper_no hA10 n p (-1) Ab cb mb (by unfold tamperOk; omega))
    have TN3 := Lib.hid (Tamper_no hA10 n 5 0 Ab cb mb (by unfold tamperOk; omega))
    clear hy hA9 hA10 sm9 slx sly hb
    have b1 : (0 : Int) ≤ (a : Int) + (n : Int) := by omega
    have b2 : (a : Int) + (n : Int) ≤ (cx : Int) := by omega
    have b3 : (a : Int) + (n : Int) ≤ (cy : Int) := by omega
    have b4 : ¬ cx = a := by omega
    have b5 : ¬ cy = a := by omega
    have b6 : a ≤ a + n := by omega
    have b7 : (65 : Int) - (n : Int) ≤ 65 := by omega
    have b8 : (0 : Int) ≤ (65 : Int) - (n : Int) := by omega
    have wan : IntKind.i64.wrap ((a : Int) + (n : Int)) = (a : Int) + (n : Int) := IntWalk.i64_in _ (by omega)
    have wsn : IntKind.i64.wrap ((65 : Int) - (n : Int)) = (65 : Int) - (n : Int) := IntWalk.i64_in _ (by omega)
    have tan : ((a : Int) + (n : Int)).toNat = a + n := by omega
    go_wp2_with fail
    refine reg_begin (fun W => Sl W w9.heap.size 1 (.slice (some ⟨gx, a, none⟩) n (cx - a)) n (bvs b) ∧ Sl W w9.heap.size 1 (.slice (some ⟨gy, a, none⟩) n (cy - a)) n (bvs b) ∧ Sl W w9.heap.size 1 (.slice Ab n cb) n (bvs b)) (fun _ => True) 51 51 #[false, false, false, false, false, false, false, false, false, false, false, false, false, false, false, false, false, false, false, false, false, false, false, false, false, false, false, false, false, false, false, false, false, false, false, false, false, false, false, false, false, false, false, false, false, false, false, false, false, false, false] (by kernel_rfl) (by kernel_rfl) (by kernel_rfl) ?_
    refine reg_take 0 63 50 #[true, false, false, false, false, false, false, false, false, false, false, false, false, false, false, false, false, false, false, false, false, false, false, false, false, false, false, false, false, false, false, false, false, false, false, false, false, false, false, false, false, false, false, false, false, false, false, false, false, false, false] (by rfl) (v := ?_) rfl rfl (by kernel_rfl) (by kernel_rfl) (by kernel_rfl) (by kernel_rfl) (fun _ _ _ h => h) (by rfl) ?_ (Till.mk' hS trivial) ?_
    rotate_left
    · rintro W ⟨hS1, hS2, hS3⟩; clear hS1 hS2 hS3; go_simp; all_goals with_reducible rfl
    try simp only [List.setIfInBounds_toArray, List.set_cons_succ, List.set_cons_zero]
    refine reg_take 1 64 49 #[true, true, false, false, false, false, false, false, false, false, false, false, false, false, false, false, false, false, false, false, false, false, false, false, false, false, false, false, false, false, false, false, false, false, false, false, false, false, false, false, false, false, false, false, false, false, false, false, false, false, false] (by rfl) (v := ?_) rfl rfl (by kernel_rfl) (by kernel_rfl) (by kernel_rfl) (by kernel_rfl) (fun _ _ _ h => h) (by rfl) ?_ (Till.mk' hS trivial) ?_
    rotate_left
    · rintro W ⟨hS1, hS2, hS3⟩; clear hS1 hS2 hS3; go_simp; all_goals with_reducible rfl
    try simp only [List.setIfInBounds_toArray, List.set_cons_succ, List.set_cons_zero]
    refine reg_take 2 65 48 #[true, true, true, false, false, false, false, false, false, false, false, false, false, false, false, false, false, false, false, false, false, false, false, false, false, false, false, false, false, false, false, false, false, false, false, false, false, false, false, false, false, false, false, false, false, false, false, false, false, false, false] (by rfl) (v := ?_) rfl rfl (by kernel_rfl) (by kernel_rfl) (by kernel_rfl) (by kernel_rfl) (fun _ _ _ h => h) (by rfl) ?_ (Till.mk' hS trivial) ?_
    rotate_left
    · rintro W ⟨hS1, hS2, hS3⟩; clear hS1 hS2 hS3; go_simp; all_goals with_reducible rfl
    try simp only [List.setIfInBounds_toArray, List.set_cons_succ, List.set_cons_zero]
    refine reg_take 3 66 47 #[true, true, true, true, false, false, false, false, false, false, false, false, false, false, false, false, false, false, false, false, false, false, false, false, false, false, false, false, false, false, false, false, false, false, false, false, false, false, false, false, false, false, false, false, false, false, false, false, false, false, false] (by rfl) (v := ?_) rfl rfl (by kernel_rfl) (by kernel_rfl) (by kernel_rfl) (by kernel_rfl) (fun _ _ _ h => h) (by rfl) ?_ (Till.mk' hS trivial) ?_
    rotate_left
    · rintro W ⟨hS1, hS2, hS3⟩; clear hS1 hS2 hS3; go_simp; all_goals with_reducible rfl
    try simp only [List.setIfInBounds_toArray, List.set_cons_succ, List.set_cons_zero]
    refine reg_take 4 67 46 #[true, true, true, true, true, false, false, false, false, false, false, false, false, false, false, false, false, false, false, false, false, false, false, false, false, false, false, false, false, false, false, false, false, false, false, false, false, false, false, false, false, false, false, false, false, false, false, false, false, false, false] (by rfl) (v := ?_) rfl rfl (by kernel_rfl) (by kernel_rfl) (by kernel_rfl) (by kernel_rfl) (fun _ _ _ h => h) (by rfl) ?_ (Till.mk' hS trivial) ?_
    rotate_left
    · rintro W ⟨hS1, hS2, hS3⟩; clear hS1 hS2 hS3; go_simp; all_goals with_reducible rfl
    try simp only [List.setIfInBounds_toArray, List.set_cons_succ, List.set_cons_zero]
    refine reg_take 5 68 45 #[true, true, true, true, true, true, false, false, false, false, false, false, false, false, false, false, false, false, false, false, false, false, false, false, false, false, false, false, false, false, false, false, false, false, false, false, false, false, false, false, false, false, false, false, false, false, false, false, false, false, false] (by rfl) (v := ?_) rfl rfl (by kernel_rfl) (by kernel_rfl) (by kernel_rfl) (by kernel_rfl) (fun _ _ _ h => h) (by rfl) ?_ (Till.mk' hS trivial) ?_
    rotate_left
    · rintro W ⟨hS1, hS2, hS3⟩; clear hS1 hS2 hS3; go_simp; all_goals with_reducible rfl
    try simp only [List.setIfInBounds_toArray, List.set_cons_succ, List.set_cons_zero]
    refine reg_take 6 69 44 #[true, true, true, true, true, true, true, false, false, false, false, false, false, false, false, false, false, false, false, false, false, false, false, false, false, false, false, false, false, false, false, false, false, false, false, false, false, false, false, false, false, false, false, false, false, false, false, false, false, false, false] (by rfl) (v := ?_) rfl rfl (by kernel_rfl) (by kernel_rfl) (by kernel_rfl) (by kernel_rfl) (fun _ _ _ h => h) (by rfl) ?_ (Till.mk' hS trivial) ?_
    rotate_left
    · rintro W ⟨hS1, hS2, hS3⟩; clear hS1 hS2 hS3; go_simp; all_goals with_reducible rfl
    try simp only [List.setIfInBounds_toArray, List.set_cons_succ, List.set_cons_zero]
    refine reg_take 7 70 43 #[true, true, true, true, true, true, true, true, false, false, false, false, false, false, false, false, false, false, false, false, false, false, false, false, false, false, false, false, false, false, false, false, false, false, false, false, false, false, false, false, false, false, false, false, false, false, false, false, false, false, false] (by rfl) (v := ?_) rfl rfl (by kernel_rfl) (by kernel_rfl) (by kernel_rfl) (by kernel_rfl) (fun _ _ _ h => h) (by rfl) ?_ (Till.mk' hS trivial) ?_
    rotate_left
    · rintro W ⟨hS1, hS2, hS3⟩; clear hS1 hS2 hS3; go_simp; all_goals with_reducible rfl
    try simp only [List.setIfInBounds_toArray, List.set_cons_succ, List.set_cons_zero]
    refine reg_take 8 71 42 #[true, true, true, true, true, true, true, true, true, false, false, false, false, false, false, false, false, false, false, false, false, false, false, false, false, false, false, false, false, false, false, false, false, false, false, false, false, false, false, false, false, false, false, false, false, false, false, false, false, false, false] (by rfl) (v := ?_) rfl rfl (by kernel_rfl) (by kernel_rfl) (by kernel_rfl) (by kernel_rfl) (fun _ _ _ h => h) (by rfl) ?_ (Till.mk' hS trivial) ?_
    rotate_left
    · rintro W ⟨hS1, hS2, hS3⟩; clear hS1 hS2 hS3; go_simp; all_goals with_reducible rfl
    try simp only [List.setIfInBounds_toArray, List.set_cons_succ, List.set_cons_zero]
    refine reg_take 9 72 41 #[true, true, true, true, true, true, true, true, true, true, false, false, false, false, false, false, false, false, false, false, false, false, false, false, false, false, false, false, false, false, false, false, false, false, false, false, false, false, false, false, false, false, false, false, false, false, false, false, false, false, false] (by rfl) (v := ?_) rfl rfl (by kernel_rfl) (by kernel_rfl) (by kernel_rfl) (by kernel_rfl) (fun _ _ _ h => h) (by rfl) ?_ (Till.mk' hS trivial) ?_
    rotate_left
    · rintro W ⟨hS1, hS2, hS3⟩; have hc1 := conv_str (P := Try.prog) (dst := 9) hS1 Try.underlying22 Try.underlying5 Try.underlying9; have hc2 := conv_str (P := Try.prog) (dst := 9) hS2 Try.underlying22 Try.underlying5 Try.underlying9; have hc3 := conv_str (P := Try.prog) (dst := 9) hS3 Try.underlying22 Try.underlying5 Try.underlying9; go_simp; all_goals with_reducible rfl
    try simp only [List.setIfInBounds_toArray, List.set_cons_succ, List.set_cons_zero]
    refine reg_take 10 73 40 #[true, true, true, true, true, true, true, true, true, true, true, false, false, false, false, false, false, false, false, false, false, false, false, false, false, false, false, false, false, false, false, false, false, false, false, false, false, false, false, false, false, false, false, false, false, false, false, false, false, false, false] (by rfl) (v := ?_) rfl rfl (by kernel_rfl) (by kernel_rfl) (by kernel_rfl) (by kernel_rfl) (fun _ _ _ h => h) (by rfl) ?_ (Till.mk' hS trivial) ?_
    rotate_left
    · rintro W ⟨hS1, hS2, hS3⟩; clear hS1 hS2 hS3; go_simp; all_goals with_reducible rfl
    try simp only [List.setIfInBounds_toArray, List.set_cons_succ, List.set_cons_zero]
    refine reg_take 11 74 39 #[true, true, true, true, true, true, true, true, true, true, true, true, false, false, false, false, false, false, false, false, false, false, false, false, false, false, false, false, false, false, false, false, false, false, false, false, false, false, false, false, false, false, false, false, false, false, false, false, false, false, false] (by rfl) (v := ?_) rfl rfl (by kernel_rfl) (by kernel_rfl) (by kernel_rfl) (by kernel_rfl) (fun _ _ _ h => h) (by rfl) ?_ (Till.mk' hS trivial) ?_
    rotate_left
    · rintro W ⟨hS1, hS2, hS3⟩; have hc1 := conv_str (P := Try.prog) (dst := 9) hS1 Try.underlying22 Try.underlying5 Try.underlying9; have hc2 := conv_str (P := Try.prog) (dst := 9) hS2 Try.underlying22 Try.underlying5 Try.underlying9; have hc3 := conv_str (P := Try.prog) (dst := 9) hS3 Try.underlying22 Try.underlying5 Try.underlying9; go_simp; all_goals with_reducible rfl
    try simp only [List.setIfInBounds_toArray, List.set_cons_succ, List.set_cons_zero]
    refine reg_take 12 75 38 #[true, true, true, true, true, true, true, true, true, true, true, true, true, false, false, false, false, false, false, false, false, false, false, false, false, false, false, false, false, false, false, false, false, false, false, false, false, false, false, false, false, false, false, false, false, false, false, false, false, false, false] (by rfl) (v := ?_) rfl rfl (by kernel_rfl) (by kernel_rfl) (by kernel_rfl) (by kernel_rfl) (fun _ _ _ h => h) (by rfl) ?_ (Till.mk' hS trivial) ?_
    rotate_left
    · rintro W ⟨hS1, hS2, hS3⟩; clear hS1 hS2 hS3; go_simp; all_goals with_reducible rfl
    try simp only [List.setIfInBounds_toArray, List.set_cons_succ, List.set_cons_zero]
    refine reg_take 13 76 37 #[true, true, true, true, true, true, true, true, true, true, true, true, true, true, false, false, false, false, false, false, false, false, false, false, false, false, false, false, false, false, false, false, false, false, false, false, false, false, false, false, false, false, false, false, false, false, false, false, false, false, false] (by rfl) (v := ?_) rfl rfl (by kernel_rfl) (by kernel_rfl) (by kernel_rfl) (by kernel_rfl) (fun _ _ _ h => h) (by rfl) ?_ (Till.mk' hS trivial) ?_
    rotate_left
    · rintro W ⟨hS1, hS2, hS3⟩; clear hS1 hS2 hS3; go_simp; all_goals with_reducible rfl
    try simp only [List.setIfInBounds_toArray, List.set_cons_succ, List.set_cons_zero]
    refine reg_take 14 77 36 #[true, true, true, true, true, true, true, true, true, true, true, true, true, true, true, false, false, false, false, false, false, false, false, false, false, false, false, false, false, false, false, false, false, false, false, false, false, false, false, false, false, false, false, false, false, false, false, false, false, false, false] (by rfl) (v := ?_) rfl rfl (by kernel_rfl) (by kernel_rfl) (by kernel_rfl) (by kernel_rfl) (fun _ _ _ h => h) (by rfl) ?_ (Till.mk' hS trivial) ?_
    rotate_left
    · rintro W ⟨hS1, hS2, hS3⟩; clear hS1 hS2 hS3; go_simp; all_goals with_reducible rfl
    try simp only [List.setIfInBounds_toArray, List.set_cons_succ, List.set_cons_zero]
    refine reg_take 15 78 35 #[true, true, true, true, true, true, true, true, true, true, true, true, true, true, true, true, false, false, false, false, false, false, false, false, false, false, false, false, false, false, false, false, false, false, false, false, false, false, false, false, false, false, false, false, false, false, false, false, false, false, false] (by rfl) (v := ?_) rfl rfl (by kernel_rfl) (by kernel_rfl) (by kernel_rfl) (by kernel_rfl) (fun _ _ _ h => h) (by rfl) ?_ (Till.mk' hS trivial) ?_
    rotate_left
    · rintro W ⟨hS1, hS2, hS3⟩; clear hS1 hS2 hS3; go_simp; all_goals with_reducible rfl
    try simp only [List.setIfInBounds_toArray, List.set_cons_succ, List.set_cons_zero]
    refine reg_take 16 79 34 #[true, true, true, true, true, true, true, true, true, true, true, true, true, true, true, true, true, false, false, false, false, false, false, false, false, false, false, false, false, false, false, false, false, false, false, false, false, false, false, false, false, false, false, false, false, false, false, false, false, false, false] (by rfl) (v := ?_) rfl rfl (by kernel_rfl) (by kernel_rfl) (by kernel_rfl) (by kernel_rfl) (fun _ _ _ h => h) (by rfl) ?_ (Till.mk' hS trivial) ?_
    rotate_left
    · rintro W ⟨hS1, hS2, hS3⟩; clear hS1 hS2 hS3; go_simp; all_goals with_reducible rfl
    try simp only [List.setIfInBounds_toArray, List.set_cons_succ, List.set_cons_zero]
    refine reg_take 17 80 33 #[true, true, true, true, true, true, true, true, true, true, true, true, true, true, true, true, true, true, false, false, false, false, false, false, false, false, false, false, false, false, false, false, false, false, false, false, false, false, false, false, false, false, false, false, false, false, false, false, false, false, false] (by rfl) (v := ?_) rfl rfl (by kernel_rfl) (by kernel_rfl) (by kernel_rfl) (by kernel_rfl) (fun _ _ _ h => h) (by rfl) ?_ (Till.mk' hS trivial) ?_
    rotate_left
    · rintro W ⟨hS1, hS2, hS3⟩; clear hS1 hS2 hS3; go_simp; all_goals with_reducible rfl
    try simp only [List.setIfInBounds_toArray, List.set_cons_succ, List.set_cons_zero]
    refine reg_take 18 81 32 #[true, true, true, true, true, true, true, true, true, true, true, true, true, true, true, true, true, true, true, false, false, false, false, false, false, false, false, false, false, false, false, false, false, false, false, false, false, false, false, false, false, false, false, false, false, false, false, false, false, false, false] (by rfl) (v := ?_) rfl rfl (by kernel_rfl) (by kernel_rfl) (by kernel_rfl) (by kernel_rfl) (fun _ _ _ h => h) (by rfl) ?_ (Till.mk' hS trivial) ?_
    rotate_left
    · rintro W ⟨hS1, hS2, hS3⟩; clear hS1 hS2 hS3; go_simp; all_goals with_reducible rfl
    try simp only [List.setIfInBounds_toArray, List.set_cons_succ, List.set_cons_zero]
    refine reg_take 19 82 31 #[true, true, true, true, true, true, true, true, true, true, true, true, true, true, true, true, true, true, true, true, false, false, false, false, false, false, false, false, false, false, false, false, false, false, false, false, false, false, false, false, false, false, false, false, false, false, false, false, false, false, false] (by rfl) (v := ?_) rfl rfl (by kernel_rfl) (by kernel_rfl) (by kernel_rfl) (by kernel_rfl) (fun _ _ _ h => h) (by rfl) ?_ (Till.mk' hS trivial) ?_
    rotate_left
    · rintro W ⟨hS1, hS2, hS3⟩; clear hS1 hS2 hS3; go_simp; all_goals with_reducible rfl
    try simp only [List.setIfInBounds_toArray, List.set_cons_succ, List.set_cons_zero]
    refine reg_take 20 83 30 #[true, true, true, true, true, true, true, true, true, true, true, true, true, true, true, true, true, true, true, true, true, false, false, false, false, false, false, false, false, false, false, false, false, false, false, false, false, false, false, false, false, false, false, false, false, false, false, false, false, false, false] (by rfl) (v := ?_) rfl rfl (by kernel_rfl) (by kernel_rfl) (by kernel_rfl) (by kernel_rfl) (fun _ _ _ h => h) (by rfl) ?_ (Till.mk' hS trivial) ?_
    rotate_left
    · rintro W ⟨hS1, hS2, hS3⟩; clear hS1 hS2 hS3; go_simp; all_goals with_reducible rfl
    try simp only [List.setIfInBounds_toArray, List.set_cons_succ, List.set_cons_zero]
    refine reg_take 21 84 29 #[true, true, true, true, true, true, true, true, true, true, true, true, true, true, true, true, true, true, true, true, true, true, false, false, false, false, false, false, false, false, false, false, false, false, false, false, false, false, false, false, false, false, false, false, false, false, false, false, false, false, false] (by rfl) (v := ?_) rfl rfl (by kernel_rfl) (by kernel_rfl) (by kernel_rfl) (by kernel_rfl) (fun _ _ _ h => h) (by rfl) ?_ (Till.mk' hS trivial) ?_
    rotate_left
    · rintro W ⟨hS1, hS2, hS3⟩; clear hS1 hS2 hS3; go_simp; all_goals with_reducible rfl
    try simp only [List.setIfInBounds_toArray, List.set_cons_succ, List.set_cons_zero]
    refine reg_take 22 85 28 #[true, true, true, true, true, true, true, true, true, true, true, true, true, true, true, true, true, true, true, true, true, true, true, false, false, false, false, false, false, false, false, false, false, false, false, false, false, false, false, false, false, false, false, false, false, false, false, false, false, false, false] (by rfl) (v := ?_) rfl rfl (by kernel_rfl) (by kernel_rfl) (by kernel_rfl) (by kernel_rfl) (fun _ _ _ h => h) (by rfl) ?_ (Till.mk' hS trivial) ?_
    rotate_left
    · rintro W ⟨hS1, hS2, hS3⟩; have hc1 := conv_str (P := Try.prog) (dst := 9) hS1 Try.underlying22 Try.underlying5 Try.underlying9; have hc2 := conv_str (P := Try.prog) (dst := 9) hS2 Try.underlying22 Try.underlying5 Try.underlying9; have hc3 := conv_str (P := Try.prog) (dst := 9) hS3 Try.underlying22 Try.underlying5 Try.underlying9; go_simp; all_goals with_reducible rfl
    try simp only [List.setIfInBounds_toArray, List.set_cons_succ, List.set_cons_zero]
    refine reg_take 23 86 27 #[true, true, true, true, true, true, true, true, true, true, true, true, true, true, true, true, true, true, true, true, true, true, true, true, false, false, false, false, false, false, false, false, false, false, false, false, false, false, false, false, false, false, false, false, false, false, false, false, false, false, false] (by rfl) (v := ?_) rfl rfl (by kernel_rfl) (by kernel_rfl) (by kernel_rfl) (by kernel_rfl) (fun _ _ _ h => h) (by rfl) ?_ (Till.mk' hS trivial) ?_
    rotate_left
    · rintro W ⟨hS1, hS2, hS3⟩; clear hS1 hS2 hS3; go_simp; all_goals with_reducible rfl
    try simp only [List.setIfInBounds_toArray, List.set_cons_succ, List.set_cons_zero]
    refine reg_take 24 87 26 #[true, true, true, true, true, true, true, true, true, true, true, true, true, true, true, true, true, true, true, true, true, true, true, true, true, false, false, false, false, false, false, false, false, false, false, false, false, false, false, false, false, false, false, false, false, false, false, false, false, false, false] (by rfl) (v := ?_) rfl rfl (by kernel_rfl) (by kernel_rfl) (by kernel_rfl) (by kernel_rfl) (fun _ _ _ h => h) (by rfl) ?_ (Till.mk' hS trivial) ?_
    rotate_left
    · rintro W ⟨hS1, hS2, hS3⟩; have hc1 := conv_str (P := Try.prog) (dst := 9) hS1 Try.underlying22 Try.underlying5 Try.underlying9; have hc2 := conv_str (P := Try.prog) (dst := 9) hS2 Try.underlying22 Try.underlying5 Try.underlying9; have hc3 := conv_str (P := Try.prog) (dst := 9) hS3 Try.underlying22 Try.underlying5 Try.underlying9; go_simp; all_goals with_reducible rfl
    try simp only [List.setIfInBounds_toArray, List.set_cons_succ, List.set_cons_zero]
    refine reg_take 25 88 25 #[true, true, true, true, true, true, true, true, true, true, true, true, true, true, true, true, true, true, true, true, true, true, true, true, true, true, false, false, false, false, false, false, false, false, false, false, false, false, false, false, false, false, false, false, false, false, false, false, false, false, false] (by rfl) (v := ?_) rfl rfl (by kernel_rfl) (by kernel_rfl) (by kernel_rfl) (by kernel_rfl) (fun _ _ _ h => h) (by rfl) ?_ (Till.mk' hS trivial) ?_
    rotate_left
    · rintro W ⟨hS1, hS2, hS3⟩; clear hS1 hS2 hS3; go_simp; all_goals with_reducible rfl
    try simp only [List.setIfInBounds_toArray, List.set_cons_succ, List.set_cons_zero]
    refine reg_take 26 89 24 #[true, true, true, true, true, true, true, true, true, true, true, true, true, true, true, true, true, true, true, true, true, true, true, true, true, true, true, false, false, false, false, false, false, false, false, false, false, false, false, false, false, false, false, false, false, false, false, false, false, false, false] (by rfl) (v := ?_) rfl rfl (by kernel_rfl) (by kernel_rfl) (by kernel_rfl) (by kernel_rfl) (fun _ _ _ h => h) (by rfl) ?_ (Till.mk' hS trivial) ?_
    rotate_left
    · rintro W ⟨hS1, hS2, hS3⟩; clear hS1 hS2 hS3; go_simp; all_goals with_reducible rfl
    try simp only [List.setIfInBounds_toArray, List.set_cons_succ, List.set_cons_zero]
    refine reg_take 27 90 23 #[true, true, true, true, true, true, true, true, true, true, true, true, true, true, true, true, true, true, true, true, true, true, true, true, true, true, true, true, false, false, false, false, false, false, false, false, false, false, false, false, false, false, false, false, false, false, false, false, false, false, false] (by rfl) (v := ?_) rfl rfl (by kernel_rfl) (by kernel_rfl) (by kernel_rfl) (by kernel_rfl) (fun _ _ _ h => h) (by rfl) ?_ (Till.mk' hS trivial) ?_
    rotate_left
    · rintro W ⟨hS1, hS2, hS3⟩; clear hS1 hS2 hS3; go_simp; all_goals with_reducible rfl
    try simp only [List.setIfInBounds_toArray, List.set_cons_succ, List.set_cons_zero]
    refine reg_take 28 91 22 #[true, true, true, true, true, true, true, true, true, true, true, true, true, true, true, true, true, true, true, true, true, true, true, true, true, true, true, true, true, false, false, false, false, false, false, false, false, false, false, false, false, false, false, false, false, false, false, false, false, false, false] (by rfl) (v := ?_) rfl rfl (by kernel_rfl) (by kernel_rfl) (by kernel_rfl) (by kernel_rfl) (fun _ _ _ h => h) (by rfl) ?_ (Till.mk' hS trivial) ?_
    rotate_left
    · rintro W ⟨hS1, hS2, hS3⟩; clear hS1 hS2 hS3; go_simp; all_goals with_reducible rfl
    try simp only [List.setIfInBounds_toArray, List.set_cons_succ, List.set_cons_zero]
    refine reg_take 29 92 21 #[true, true, true, true, true, true, true, true, true, true, true, true, true, true, true, true, true, true, true, true, true, true, true, true, true, true, true, true, true, true, false, false, false, false, false, false, false, false, false, false, false, false, false, false, false, false, false, false, false, false, false] (by rfl) (v := ?_) rfl rfl (by kernel_rfl) (by kernel_rfl) (by kernel_rfl) (by kernel_rfl) (fun _ _ _ h => h) (by rfl) ?_ (Till.mk' hS trivial) ?_
    rotate_left
    · rintro W ⟨hS1, hS2, hS3⟩; clear hS1 hS2 hS3; go_simp; all_goals with_reducible rfl
    try simp only [List.setIfInBounds_toArray, List.set_cons_succ, List.set_cons_zero]
    refine reg_take 30 93 20 #[true, true, true, true, true, true, true, true, true, true, true, true, true, true, true, true, true, true, true, true, true, true, true, true, true, true, true, true, true, true, true, false, false, false, false, false, false, false, false, false, false, false, false, false, false, false, false, false, false, false, false] (by rfl) (v := ?_) rfl rfl (by kernel_rfl) (by kernel_rfl) (by kernel_rfl) (by kernel_rfl) (fun _ _ _ h => h) (by rfl) ?_ (Till.mk' hS trivial) ?_
    rotate_left
    · rintro W ⟨hS1, hS2, hS3⟩; clear hS1 hS2 hS3; go_simp; all_goals with_reducible rfl
    try simp only [List.setIfInBounds_toArray, List.set_cons_succ, List.set_cons_zero]
    refine reg_take 31 94 19 #[true, true, true, true, true, true, true, true, true, true, true, true, true, true, true, true, true, true, true, true, true, true, true, true, true, true, true, true, true, true, true, true, false, false, false, false, false, false, false, false, false, false, false, false, false, false, false, false, false, false, false] (by rfl) (v := ?_) rfl rfl (by kernel_rfl) (by kernel_rfl) (by kernel_rfl) (by kernel_rfl) (fun _ _ _ h => h) (by rfl) ?_ (Till.mk' hS trivial) ?_
    rotate_left
    · rintro W ⟨hS1, hS2, hS3⟩; clear hS1 hS2 hS3; go_simp; all_goals with_reducible rfl
    try simp only [List.setIfInBounds_toArray, List.set_cons_succ, List.set_cons_zero]
    refine reg_take 32 95 18 #[true, true, true, true, true, true, true, true, true, true, true, true, true, true, true, true, true, true, true, true, true, true, true, true, true, true, true, true, true, true, true, true, true, false, false, false, false, false, false, false, false, false, false, false, false, false, false, false, false, false, false] (by rfl) (v := ?_) rfl rfl (by kernel_rfl) (by kernel_rfl) (by kernel_rfl) (by kernel_rfl) (fun _ _ _ h => h) (by rfl) ?_ (Till.mk' hS trivial) ?_
    rotate_left
    · rintro W ⟨hS1, hS2, hS3⟩; clear hS1 hS2 hS3; go_simp; all_goals with_reducible rfl
    try simp only [List.setIfInBounds_toArray, List.set_cons_succ, List.set_cons_zero]
    refine reg_take 33 96 17 #[true, true, true, true, true, true, true, true, true, true, true, true, true, true, true, true, true, true, true, true, true, true, true, true, true, true, true, true, true, true, true, true, true, true, false, false, false, false, false, false, false, false, false, false, false, false, false, false, false, false, false] (by rfl) (v := ?_) rfl rfl (by kernel_rfl) (by kernel_rfl) (by kernel_rfl) (by kernel_rfl) (fun _ _ _ h => h) (by rfl) ?_ (Till.mk' hS trivial) ?_
    rotate_left
    · rintro W ⟨hS1, hS2, hS3⟩; clear hS1 hS2 hS3; go_simp; all_goals with_reducible rfl
    try simp only [List.setIfInBounds_toArray, List.set_cons_succ, List.set_cons_zero]
    refine reg_one 34 16 #[true, true, true, true, true, true, true, true, true, true, true, true, true, true, true, true, true, true, true, true, true, true, true, true, true, true, true, true, true, true, true, true, true, true, true, false, false, false, false, false, false, false, false, false, false, false, false, false, false, false, false] (by kernel_rfl) rfl (by rfl) (by kernel_rfl) (fun K hK => ?_)
    go_simp
    refine (TN1.out).mono ?_
    rintro e ww ⟨rfl, rfl⟩
    refine hK _ _ (Till.mk' hS trivial) ?_
    clear hK K
    try simp only [List.setIfInBounds_toArray, List.set_cons_succ, List.set_cons_zero]
    refine reg_take 35 98 15 #[true, true, true, true, true, true, true, true, true, true, true, true, true, true, true, true, true, true, true, true, true, true, true, true, true, true, true, true, true, true, true, true, true, true, true, true, false, false, false, false, false, false, false, false, false, false, false, false, false, false, false] (by rfl) (v := ?_) rfl rfl (by kernel_rfl) (by kernel_rfl) (by kernel_rfl) (by kernel_rfl) (fun _ _ _ h => h) (by rfl) ?_ (Till.mk' hS trivial) ?_
    rotate_left
    · rintro W ⟨hS1, hS2, hS3⟩; clear hS1 hS2 hS3; go_simp; all_goals with_reducible rfl
    try simp only [List.setIfInBounds_toArray, List.set_cons_succ, List.set_cons_zero]
    refine reg_take 36 99 14 #[true, true, true, true, true, true, true, true, true, true, true, true, true, true, true, true, true, true, true, true, true, true, true, true, true, true, true, true, true, true, true, true, true, true, true, true, true, false, false, false, false, false, false, false, false, false, false, false, false, false, false] (by rfl) (v := ?_) rfl rfl (by kernel_rfl) (by kernel_rfl) (by kernel_rfl) (by kernel_rfl) (fun _ _ _ h => h) (by rfl) ?_ (Till.mk' hS trivial) ?_
    rotate_left
    · rintro W ⟨hS1, hS2, hS3⟩; clear hS1 hS2 hS3; go_simp; all_goals with_reducible rfl
    try simp only [List.setIfInBounds_toArray, List.set_cons_succ, List.set_cons_zero]
    refine reg_take 37 100 13 #[true, true, true, true, true, true, true, true, true, true, true, true, true, true, true, true, true, true, true, true, true, true, true, true, true, true, true, true, true, true, true, true, true, true, true, true, true, true, false, false, false, false, false, false, false, false, false, false, false, false, false] (by rfl) (v := ?_) rfl rfl (by kernel_rfl) (by kernel_rfl) (by kernel_rfl) (by kernel_rfl) (fun _ _ _ h => h) (by rfl) ?_ (Till.mk' hS trivial) ?_
    rotate_left
    · rintro W ⟨hS1, hS2, hS3⟩; clear hS1 hS2 hS3; go_simp; all_goals with_reducible rfl
    try simp only [List.setIfInBounds_toArray, List.set_cons_succ, List.set_cons_zero]
    refine reg_take 38 101 12 #[true, true, true, true, true, true, true, true, true, true, true, true, true, true, true, true, true, true, true, true, true, true, true, true, true, true, true, true, true, true, true, true, true, true, true, true, true, true, true, false, false, false, false, false, false, false, false, false, false, false, false] (by rfl) (v := ?_) rfl rfl (by kernel_rfl) (by kernel_rfl) (by kernel_rfl) (by kernel_rfl) (fun _ _ _ h => h) (by rfl) ?_ (Till.mk' hS trivial) ?_
    rotate_left
    · rintro W ⟨hS1, hS2, hS3⟩; clear hS1 hS2 hS3; go_simp; all_goals with_reducible rfl
    try simp only [List.setIfInBounds_toArray, List.set_cons_succ, List.set_cons_zero]
    refine reg_take 39 102 11 #[true, true, true, true, true, true, true, true, true, true, true, true, true, true, true, true, true, true, true, true, true, true, true, true, true, true, true, true, true, true, true, true, true, true, true, true, true, true, true, true, false, false, false, false, false, false, false, false, false, false, false] (by rfl) (v := ?_) rfl rfl (by kernel_rfl) (by kernel_rfl) (by kernel_rfl) (by kernel_rfl) (fun _ _ _ h => h) (by rfl) ?_ (Till.mk' hS trivial) ?_
    rotate_left
    · rintro W ⟨hS1, hS2, hS3⟩; clear hS1 hS2 hS3; go_simp; all_goals with_reducible rfl
    try simp only [List.setIfInBounds_toArray, List.set_cons_succ, List.set_cons_zero]
    refine reg_take 40 103 10 #[true, true, true, true, true, true, true, true, true, true, true, true, true, true, true, true, true, true, true, true, true, true, true, true, true, true, true, true, true, true, true, true, true, true, true, true, true, true, true, true, true, false, false, false, false, false, false, false, false, false, false] (by rfl) (v := ?_) rfl rfl (by kernel_rfl) (by kernel_rfl) (by kernel_rfl) (by kernel_rfl) (fun _ _ _ h => h) (by rfl) ?_ (Till.mk' hS trivial) ?_
    rotate_left
    · rintro W ⟨hS1, hS2, hS3⟩; clear hS1 hS2 hS3; go_simp; all_goals with_reducible rfl
    try simp only [List.setIfInBounds_toArray, List.set_cons_succ, List.set_cons_zero]
    refine reg_one 41 9 #[true, true, true, true, true, true, true, true, true, true, true, true, true, true, true, true, true, true, true, true, true, true, true, true, true, true, true, true, true, true, true, true, true, true, true, true, true, true, true, true, true, true, false, false, false, false, false, false, false, false, false] (by kernel_rfl) rfl (by rfl) (by kernel_rfl) (fun K hK => ?_)
    go_simp
    refine (TN2.out).mono ?_
    rintro e ww ⟨rfl, rfl⟩
    refine hK _ _ (Till.mk' hS trivial) ?_
    clear hK K
    try simp only [List.setIfInBounds_toArray, List.set_cons_succ, List.set_cons_zero]
    refine reg_take 42 105 8 #[true, true, true, true, true, true, true, true, true, true, true, true, true, true, true, true, true, true, true, true, true, true, true, true, true, true, true, true, true, true, true, true, true, true, true, true, true, true, true, true, true, true, true, false, false, false, false, false, false, false, false] (by rfl) (v := ?_) rfl rfl (by kernel_rfl) (by kernel_rfl) (by kernel_rfl) (by kernel_rfl) (fun _ _ _ h => h) (by rfl) ?_ (Till.mk' hS trivial) ?_
    rotate_left
    · rintro W ⟨hS1, hS2, hS3⟩; clear hS1 hS2 hS3; go_simp; all_goals with_reducible rfl
    try simp only [List.setIfInBounds_toArray, List.set_cons_succ, List.set_cons_zero]
    refine reg_take 43 106 7 #[true, true, true, true, true, true, true, true, true, true, true, true, true, true, true, true, true, true, true, true, true, true, true, true, true, true, true, true, true, true, true, true, true, true, true, true, true, true, true, true, true, true, true, true, false, false, false, false, false, false, false] (by rfl) (v := ?_) rfl rfl (by kernel_rfl) (by kernel_rfl) (by kernel_rfl) (by kernel_rfl) (fun _ _ _ h => h) (by rfl) ?_ (Till.mk' hS trivial) ?_
    rotate_left
    · rintro W ⟨hS1, hS2, hS3⟩; clear hS1 hS2 hS3; go_simp; all_goals with_reducible rfl
    try simp only [List.setIfInBounds_toArray, List.set_cons_succ, List.set_cons_zero]
    refine reg_take 44 107 6 #[true, true, true, true, true, true, true, true, true, true, true, true, true, true, true, true, true, true, true, true, true, true, true, true, true, true, true, true, true, true, true, true, true, true, true, true, true, true, true, true, true, true, true, true, true, false, false, false, false, false, false] (by rfl) (v := ?_) rfl rfl (by kernel_rfl) (by kernel_rfl) (by kernel_rfl) (by kernel_rfl) (fun _ _ _ h => h) (by rfl) ?_ (Till.mk' hS trivial) ?_
    rotate_left
    · rintro W ⟨hS1, hS2, hS3⟩; clear hS1 hS2 hS3; go_simp; all_goals with_reducible rfl
    try simp only [List.setIfInBounds_toArray, List.set_cons_succ, List.set_cons_zero]
    refine reg_take 45 108 5 #[true, true, true, true, true, true, true, true, true, true, true, true, true, true, true, true, true, true, true, true, true, true, true, true, true, true, true, true, true, true, true, true, true, true, true, true, true, true, true, true, true, true, true, true, true, true, false, false, false, false, false] (by rfl) (v := ?_) rfl rfl (by kernel_rfl) (by kernel_rfl) (by kernel_rfl) (by kernel_rfl) (fun _ _ _ h => h) (by rfl) ?_ (Till.mk' hS trivial) ?_
    rotate_left
    · rintro W ⟨hS1, hS2, hS3⟩; clear hS1 hS2 hS3; go_simp; all_goals with_reducible rfl
    try simp only [List.setIfInBounds_toArray, List.set_cons_succ, List.set_cons_zero]
    refine reg_take 46 109 4 #[true, true, true, true, true, true, true, true, true, true, true, true, true, true, true, true, true, true, true, true, true, true, true, true, true, true, true, true, true, true, true, true, true, true, true, true, true, true, true, true, true, true, true, true, true, true, true, false, false, false, false] (by rfl) (v := ?_) rfl rfl (by kernel_rfl) (by kernel_rfl) (by kernel_rfl) (by kernel_rfl) (fun _ _ _ h => h) (by rfl) ?_ (Till.mk' hS trivial) ?_
    rotate_left
    · rintro W ⟨hS1, hS2, hS3⟩; clear hS1 hS2 hS3; go_simp; all_goals with_reducible rfl
    try simp only [List.setIfInBounds_toArray, List.set_cons_succ, List.set_cons_zero]
    refine reg_one 47 3 #[true, true, true, true, true, true, true, true, true, true, true, true, true, true, true, true, true, true, true, true, true, true, true, true, true, true, true, true, true, true, true, true, true, true, true, true, true, true, true, true, true, true, true, true, true, true, true, true, false, false, false] (by kernel_rfl) rfl (by rfl) (by kernel_rfl) (fun K hK => ?_)
    go_simp
    refine (TN3.out).mono ?_
    rintro e ww ⟨rfl, rfl⟩
    refine hK _ _ (Till.mk' hS trivial) ?_
    clear hK K
    try simp only [List.setIfInBounds_toArray, List.set_cons_succ, List.set_cons_zero]
    refine reg_take 48 111 2 #[true, true, true, true, true, true, true, true, true, true, true, true, true, true, true, true, true, true, true, true, true, true, true, true, true, true, true, true, true, true, true, true, true, true, true, true, true, true, true, true, true, true, true, true, true, true, true, true, true, false, false] (by rfl) (v := ?_) rfl rfl (by kernel_rfl) (by kernel_rfl) (by kernel_rfl) (by kernel_rfl) (fun _ _ _ h => h) (by rfl) ?_ (Till.mk' hS trivial) ?_
    rotate_left
    · rintro W ⟨hS1, hS2, hS3⟩; clear hS1 hS2 hS3; go_simp; all_goals with_reducible rfl
    try simp only [List.setIfInBounds_toArray, List.set_cons_succ, List.set_cons_zero]
    refine reg_take 49 112 1 #[true, true, true, true, true, true, true, true, true, true, true, true, true, true, true, true, true, true, true, true, true, true, true, true, true, true, true, true, true, true, true, true, true, true, true, true, true, true, true, true, true, true, true, true, true, true, true, true, true, true, false] (by rfl) (v := ?_) rfl rfl (by kernel_rfl) (by kernel_rfl) (by kernel_rfl) (by kernel_rfl) (fun _ _ _ h => h) (by rfl) ?_ (Till.mk' hS trivial) ?_
    rotate_left
    · rintro W ⟨hS1, hS2, hS3⟩; clear hS1 hS2 hS3; go_simp; all_goals with_reducible rfl
    try simp only [List.setIfInBounds_toArray, List.set_cons_succ, List.set_cons_zero]
    refine reg_take 50 8 0 #[true, true, true, true, true, true, true, true, true, true, true, true, true, true, true, true, true, true, true, true, true, true, true, true, true, true, true, true, true, true, true, true, true, true, true, true, true, true, true, true, true, true, true, true, true, true, true, true, true, true, true] (by rfl) (v := ?_) rfl rfl (by kernel_rfl) (by kernel_rfl) (by kernel_rfl) (by kernel_rfl) (fun _ _ _ h => h) (by rfl) ?_ (Till.mk' hS trivial) ?_
    rotate_left
    · rintro W ⟨hS1, hS2, hS3⟩; clear hS1 hS2 hS3; go_simp; all_goals with_reducible rfl
    try simp only [List.setIfInBounds_toArray, List.set_cons_succ, List.set_cons_zero]
    refine reg_done (by kernel_rfl) ?_ _
    go_wp2_with fail
    go_ret
    exact ⟨rfl, bel⟩
  · have SY := Lib.hid (Sync_at hA3)
    go_wp2_with fail
    refine SY.out.mono ?_
    rintro e w4 ⟨rfl, hA4', -⟩
    clear SY hA3
    have hA4 : At w w4 B g 5 (tst0 p true) [] := hA4'.sub (by simp)
    clear hA4'
    have TM := Lib.hid (Tamper_at hA4 p a _ b (by rw [hbl'.out]; exact hA4.arg hb) (own_arg hb (by omega)) hp5 (by omega) (by rw [hbl'.out]; omega))
    go_wp2_with fail
    refine TM.out.mono ?_
    rintro e w5 ⟨rfl, hA5, -⟩
    have hA5' : At w w5 B g 5 (tst p a b true) [] := hA5.sub (by simp)
    clear TM hA5 hA4
    have RD := Lib.hid (Read_at hA5' p hp5 (tst_dead p a b true))
    go_wp2_with fail
    refine RD.out.mono ?_
    rintro e w6 ⟨gx, cx, rfl, -, hcx, hmx, hx, hA6, -⟩
    clear RD hA5'
    have slx : Sl w6 w6.heap.size 1 (.slice (some ⟨gx, a, none⟩) n (cx - a)) n (bvs b) := sl_part hbl'.out hpos (by omega) (by omega) (hA6.side gx (by simp)).2 (fun j hj => (hx _ _ (tst_cell p a b true hp5 (by rw [hbl'.out]; exact ha64) j hj)).1)
    have CR := Lib.hid (Crash_at hA6 none 0 [] (tst_fine p a b true hp5).1 (tst_fine p a b true hp5).2 Sl.nil (by simp) (by simp))
    clear hx
    go_wp2_with fail
    refine CR.out.mono ?_
    rintro e w7 ⟨rfl, hA7, sm7⟩
    clear CR hA6
    have slx := sl_same slx sm7 (by simp)
    have hA7' : At w w7 B g 5 (tst2 p a b true) [gx] := hA7
    clear hA7 sm7
    have RD := Lib.hid (Read_at hA7' p hp5 rfl)
    go_wp2_with fail
    refine RD.out.mono ?_
    rintro e w9 ⟨gy, cy, rfl, -, hcy, hmy, hy, hA9, sm9⟩
    clear RD hA7'
    have slx := sl_same slx sm9 (by simp)
    have sly : Sl w9 w9.heap.size 1 (.slice (some ⟨gy, a, none⟩) n (cy - a)) n (bvs b) := sl_part hbl'.out hpos (by omega) (by omega) (hA9.side gy (by simp)).2 (fun j hj => (hy _ _ (tst2_cell p a b true hp5 (by rw [hbl'.out]; exact ha64) j hj)).1)
    have hA10 := hA9.drew
    have bel := hA10.bel
    have hS : (fun W => Sl W w9.heap.size 1 (.slice (some ⟨gx, a, none⟩) n (cx - a)) n (bvs b) ∧ Sl W w9.heap.size 1 (.slice (some ⟨gy, a, none⟩) n (cy - a)) n (bvs b) ∧ Sl W w9.heap.size 1 (.slice Ab n cb) n (bvs b)) w9.drew := ⟨slx.drew, sly.drew, (hA9.arg hb).drew⟩
    have TN1 := Lib.hid (Tamper_no hA10 n p (65 - (n : Int)) Ab cb mb (by unfold tamperOk; omega))
    have TN2 := Lib.hid (Tamper_no hA10 n p (-1) Ab cb mb (by unfold tamperOk; omega))
    have TN3 := Lib.hid (Tamper_no hA10 n 5 0 Ab cb mb (by unfold tamperOk; omega))
    clear hy hA9 hA10 sm9 slx sly hb
    have b1 : (0 : Int) ≤ (a : Int) + (n : Int) := by omega
    have b2 : (a : Int) + (n : Int) ≤ (cx : Int) := by omega
    have b3 : (a : Int) + (n : Int) ≤ (cy : Int) := by omega
    have b4 : ¬ cx = a := by omega
    have b5 : ¬ cy = a := by omega
    have b6 : a ≤ a + n := by omega
    have b7 : (65 : Int) - (n : Int) ≤ 65 := by omega
    have b8 : (0 : Int) ≤ (65 : Int) - (n : Int) := by omega
    have wan : IntKind.i64.wrap ((a : Int) + (n : Int)) = (a : Int) + (n : Int) := IntWalk.i64_in _ (by omega)
    have wsn : IntKind.i64.wrap ((65 : Int) - (n : Int)) = (65 : Int) - (n : Int) := IntWalk.i64_in _ (by omega)
    have tan : ((a : Int) + (n : Int)).toNat = a + n := by omega
    go_wp2_with fail
    refine reg_begin (fun W => Sl W w9.heap.size 1 (.slice (some ⟨gx, a, none⟩) n (cx - a)) n (bvs b) ∧ Sl W w9.heap.size 1 (.slice (some ⟨gy, a, none⟩) n (cy - a)) n (bvs b) ∧ Sl W w9.heap.size 1 (.slice Ab n cb) n (bvs b)) (fun _ => True) 51 51 #[false, false, false, false, false, false, false, false, false, false, false, false, false, false, false, false, false, false, false, false, false, false, false, false, false, false, false, false, false, false, false, false, false, false, false, false, false, false, false, false, false, false, false, false, false, false, false, false, false, false, false] (by kernel_rfl) (by kernel_rfl) (by kernel_rfl) ?_
    refine reg_take 0 63 50 #[true, false, false, false, false, false, false, false, false, false, false, false, false, false, false, false, false, false, false, false, false, false, false, false, false, false, false, false, false, false, false, false, false, false, false, false, false, false, false, false, false, false, false, false, false, false, false, false, false, false, false] (by rfl) (v := ?_) rfl rfl (by kernel_rfl) (by kernel_rfl) (by kernel_rfl) (by kernel_rfl) (fun _ _ _ h => h) (by rfl) ?_ (Till.mk' hS trivial) ?_
    rotate_left
    · rintro W ⟨hS1, hS2, hS3⟩; clear hS1 hS2 hS3; go_simp; all_goals with_reducible rfl
    try simp only [List.setIfInBounds_toArray, List.set_cons_succ, List.set_cons_zero]
    refine reg_take 1 64 49 #[true, true, false, false, false, false, false, false, false, false, false, false, false, false, false, false, false, false, false, false, false, false, false, false, false, false, false, false, false, false, false, false, false, false, false, false, false, false, false, false, false, false, false, false, false, false, false, false, false, false, false] (by rfl) (v := ?_) rfl rfl (by kernel_rfl) (by kernel_rfl) (by kernel_rfl) (by kernel_rfl) (fun _ _ _ h => h) (by rfl) ?_ (Till.mk' hS trivial) ?_
    rotate_left
    · rintro W ⟨hS1, hS2, hS3⟩; clear hS1 hS2 hS3; go_simp; all_goals with_reducible rfl
    try simp only [List.setIfInBounds_toArray, List.set_cons_succ, List.set_cons_zero]
    refine reg_take 2 65 48 #[true, true, true, false, false, false, false, false, false, false, false, false, false, false, false, false, false, false, false, false, false, false, false, false, false, false, false, false, false, false, false, false, false, false, false, false, false, false, false, false, false, false, false, false, false, false, false, false, false, false, false] (by rfl) (v := ?_) rfl rfl (by kernel_rfl) (by kernel_rfl) (by kernel_rfl) (by kernel_rfl) (fun _ _ _ h => h) (by rfl) ?_ (Till.mk' hS trivial) ?_
    rotate_left
    · rintro W ⟨hS1, hS2, hS3⟩; clear hS1 hS2 hS3; go_simp; all_goals with_reducible rfl
    try simp only [List.setIfInBounds_toArray, List.set_cons_succ, List.set_cons_zero]
    refine reg_take 3 66 47 #[true, true, true, true, false, false, false, false, false, false, false, false, false, false, false, false, false, false, false, false, false, false, false, false, false, false, false, false, false, false, false, false, false, false, false, false, false, false, false, false, false, false, false, false, false, false, false, false, false, false, false] (by rfl) (v := ?_) rfl rfl (by kernel_rfl) (by kernel_rfl) (by kernel_rfl) (by kernel_rfl) (fun _ _ _ h => h) (by rfl) ?_ (Till.mk' hS trivial) ?_
    rotate_left
    · rintro W ⟨hS1, hS2, hS3⟩; clear hS1 hS2 hS3; go_simp; all_goals with_reducible rfl
    try simp only [List.setIfInBounds_toArray, List.set_cons_succ, List.set_cons_zero]
    refine reg_take 4 67 46 #[true, true, true, true, true, false, false, false, false, false, false, false, false, false, false, false, false, false, false, false, false, false, false, false, false, false, false, false, false, false, false, false, false, false, false, false, false, false, false, false, false, false, false, false, false, false, false, false, false, false, false] (by rfl) (v := ?_) rfl rfl (by kernel_rfl) (by kernel_rfl) (by kernel_rfl) (by kernel_rfl) (fun _ _ _ h => h) (by rfl) ?_ (Till.mk' hS trivial) ?_
    rotate_left
    · rintro W ⟨hS1, hS2, hS3⟩; clear hS1 hS2 hS3; go_simp; all_goals with_reducible rfl
    try simp only [List.setIfInBounds_toArray, List.set_cons_succ, List.set_cons_zero]
    refine reg_take 5 68 45 #[true, true, true, true, true, true, false, false, false, false, false, false, false, false, false, false, false, false, false, false, false, false, false, false, false, false, false, false, false, false, false, false, false, false, false, false, false, false, false, false, false, false, false, false, false, false, false, false, false, false, false] (by rfl) (v := ?_) rfl rfl (by kernel_rfl) (by kernel_rfl) (by kernel_rfl) (by kernel_rfl) (fun _ _ _ h => h) (by rfl) ?_ (Till.mk' hS trivial) ?_
    rotate_left
    · rintro W ⟨hS1, hS2, hS3⟩; clear hS1 hS2 hS3; go_simp; all_goals with_reducible rfl
    try simp only [List.setIfInBounds_toArray, List.set_cons_succ, List.set_cons_zero]
    refine reg_take 6 69 44 #[true, true, true, true, true, true, true, false, false, false, false, false, false, false, false, false, false, false, false, false, false, false, false, false, false, false, false, false, false, false, false, false, false, false, false, false, false, false, false, false, false, false, false, false, false, false, false, false, false, false, false] (by rfl) (v := ?_) rfl rfl (by kernel_rfl) (by kernel_rfl) (by kernel_rfl) (by kernel_rfl) (fun _ _ _ h => h) (by rfl) ?_ (Till.mk' hS trivial) ?_
    rotate_left
    · rintro W ⟨hS1, hS2, hS3⟩; clear hS1 hS2 hS3; go_simp; all_goals with_reducible rfl
    try simp only [List.setIfInBounds_toArray, List.set_cons_succ, List.set_cons_zero]
    refine reg_take 7 70 43 #[true, true, true, true, true, true, true, true, false, false, false, false, false, false, false, false, false, false, false, false, false, false, false, false, false, false, false, false, false, false, false, false, false, false, false, false, false, false, false, false, false, false, false, false, false, false, false, false, false, false, false] (by rfl) (v := ?_) rfl rfl (by kernel_rfl) (by kernel_rfl) (by kernel_rfl) (by kernel_rfl) (fun _ _ _ h => h) (by rfl) ?_ (Till.mk' hS trivial) ?_
    rotate_left
    · rintro W ⟨hS1, hS2, hS3⟩; clear hS1 hS2 hS3; go_simp; all_goals with_reducible rfl
    try simp only [List.setIfInBounds_toArray, List.set_cons_succ, List.set_cons_zero]
    refine reg_take 8 71 42 #[true, true, true, true, true, true, true, true, true, false, false, false, false, false, false, false, false, false, false, false, false, false, false, false, false, false, false, false, false, false, false, false, false, false, false, false, false, false, false, false, false, false, false, false, false, false, false, false, false, false, false] (by rfl) (v := ?_) rfl rfl (by kernel_rfl) (by kernel_rfl) (by kernel_rfl) (by kernel_rfl) (fun _ _ _ h => h) (by rfl) ?_ (Till.mk' hS trivial) ?_
    rotate_left
    · rintro W ⟨hS1, hS2, hS3⟩; clear hS1 hS2 hS3; go_simp; all_goals with_reducible rfl
    try simp only [List.setIfInBounds_toArray, List.set_cons_succ, List.set_cons_zero]
    refine reg_take 9 72 41 #[true, true, true, true, true, true, true, true, true, true, false, false, false, false, false, false, false, false, false, false, false, false, false, false, false, false, false, false, false, false, false, false, false, false, false, false, false, false, false, false, false, false, false, false, false, false, false, false, false, false, false] (by rfl) (v := ?_) rfl rfl (by kernel_rfl) (by kernel_rfl) (by kernel_rfl) (by kernel_rfl) (fun _ _ _ h => h) (by rfl) ?_ (Till.mk' hS trivial) ?_
    rotate_left
    · rintro W ⟨hS1, hS2, hS3⟩; have hc1 := conv_str (P := Try.prog) (dst := 9) hS1 Try.underlying22 Try.underlying5 Try.underlying9; have hc2 := conv_str (P := Try.prog) (dst := 9) hS2 Try.underlying22 Try.underlying5 Try.underlying9; have hc3 := conv_str (P := Try.prog) (dst := 9) hS3 Try.underlying22 Try.underlying5 Try.underlying9; go_simp; all_goals with_reducible rfl
    try simp only [List.setIfInBounds_toArray, List.set_cons_succ, List.set_cons_zero]
    refine reg_take 10 73 40 #[true, true, true, true, true, true, true, true, true, true, true, false, false, false, false, false, false, false, false, false, false, false, false, false, false, false, false, false, false, false, false, false, false, false, false, false, false, false, false, false, false, false, false, false, false, false, false, false, false, false, false] (by rfl) (v := ?_) rfl rfl (by kernel_rfl) (by kernel_rfl) (by kernel_rfl) (by kernel_rfl) (fun _ _ _ h => h) (by rfl) ?_ (Till.mk' hS trivial) ?_
    rotate_left
    · rintro W ⟨hS1, hS2, hS3⟩; clear hS1 hS2 hS3; go_simp; all_goals with_reducible rfl
    try simp only [List.setIfInBounds_toArray, List.set_cons_succ, List.set_cons_zero]
    refine reg_take 11 74 39 #[true, true, true, true, true, true, true, true, true, true, true, true, false, false, false, false, false, false, false, false, false, false, false, false, false, false, false, false, false, false, false, false, false, false, false, false, false, false, false, false, false, false, false, false, false, false, false, false, false, false, false] (by rfl) (v := ?_) rfl rfl (by kernel_rfl) (by kernel_rfl) (by kernel_rfl) (by kernel_rfl) (fun _ _ _ h => h) (by rfl) ?_ (Till.mk' hS trivial) ?_
    rotate_left
    · rintro W ⟨hS1, hS2, hS3⟩; have hc1 := conv_str (P := Try.prog) (dst := 9) hS1 Try.underlying22 Try.underlying5 Try.underlying9; have hc2 := conv_str (P := Try.prog) (dst := 9) hS2 Try.underlying22 Try.underlying5 Try.underlying9; have hc3 := conv_str (P := Try.prog) (dst := 9) hS3 Try.underlying22 Try.underlying5 Try.underlying9; go_simp; all_goals with_reducible rfl
    try simp only [List.setIfInBounds_toArray, List.set_cons_succ, List.set_cons_zero]
    refine reg_take 12 75 38 #[true, true, true, true, true, true, true, true, true, true, true, true, true, false, false, false, false, false, false, false, false, false, false, false, false, false, false, false, false, false, false, false, false, false, false, false, false, false, false, false, false, false, false, false, false, false, false, false, false, false, false] (by rfl) (v := ?_) rfl rfl (by kernel_rfl) (by kernel_rfl) (by kernel_rfl) (by kernel_rfl) (fun _ _ _ h => h) (by rfl) ?_ (Till.mk' hS trivial) ?_
    rotate_left
    · rintro W ⟨hS1, hS2, hS3⟩; clear hS1 hS2 hS3; go_simp; all_goals with_reducible rfl
    try simp only [List.setIfInBounds_toArray, List.set_cons_succ, List.set_cons_zero]
    refine reg_take 13 76 37 #[true, true, true, true, true, true, true, true, true, true, true, true, true, true, false, false, false, false, false, false, false, false, false, false, false, false, false, false, false, false, false, false, false, false, false, false, false, false, false, false, false, false, false, false, false, false, false, false, false, false, false] (by rfl) (v := ?_) rfl rfl (by kernel_rfl) (by kernel_rfl) (by kernel_rfl) (by kernel_rfl) (fun _ _ _ h => h) (by rfl) ?_ (Till.mk' hS trivial) ?_
    rotate_left
    · rintro W ⟨hS1, hS2, hS3⟩; clear hS1 hS2 hS3; go_simp; all_goals with_reducible rfl
    try simp only [List.setIfInBounds_toArray, List.set_cons_succ, List.set_cons_zero]
    refine reg_take 14 77 36 #[true, true, true, true, true, true, true, true, true, true, true, true, true, true, true, false, false, false, false, false, false, false, false, false, false, false, false, false, false, false, false, false, false, false, false, false, false, false, false, false, false, false, false, false, false, false, false, false, false, false, false] (by rfl) (v := ?_) rfl rfl (by kernel_rfl) (by kernel_rfl) (by kernel_rfl) (by kernel_rfl) (fun _ _ _ h => h) (by rfl) ?_ (Till.mk' hS trivial) ?_
    rotate_left
    · rintro W ⟨hS1, hS2, hS3⟩; clear hS1 hS2 hS3; go_simp; all_goals with_reducible rfl
    try simp only [List.setIfInBounds_toArray, List.set_cons_succ, List.set_cons_zero]
    refine reg_take 15 78 35 #[true, true, true, true, true, true, true, true, true, true, true, true, true, true, true, true, false, false, false, false, false, false, false, false, false, false, false, false, false, false, false, false, false, false, false, false, false, false, false, false, false, false, false, false, false, false, false, false, false, false, false] (by rfl) (v := ?_) rfl rfl (by kernel_rfl) (by kernel_rfl) (by kernel_rfl) (by kernel_rfl) (fun _ _ _ h => h) (by rfl) ?_ (Till.mk' hS trivial) ?_
    rotate_left
    · rintro W ⟨hS1, hS2, hS3⟩; clear hS1 hS2 hS3; go_simp; all_goals with_reducible rfl
    try simp only [List.setIfInBounds_toArray, List.set_cons_succ, List.set_cons_zero]
    refine reg_take 16 79 34 #[true, true, true, true, true, true, true, true, true, true, true, true, true, true, true, true, true, false, false, false, false, false, false, false, false, false, false, false, false, false, false, false, false, false, false, false, false, false, false, false, false, false, false, false, false, false, false, false, false, false, false] (by rfl) (v := ?_) rfl rfl (by kernel_rfl) (by kernel_rfl) (by kernel_rfl) (by kernel_rfl) (fun _ _ _ h => h) (by rfl) ?_ (Till.mk' hS trivial) ?_
    rotate_left
    · rintro W ⟨hS1, hS2, hS3⟩; clear hS1 hS2 hS3; go_simp; all_goals with_reducible rfl
    try simp only [List.setIfInBounds_toArray, List.set_cons_succ, List.set_cons_zero]
    refine reg_take 17 80 33 #[true, true, true, true, true, true, true, true, true, true, true, true, true, true, true, true, true, true, false, false, false, false, false, false, false, false, false, false, false, false, false, false, false, false, false, false, false, false, false, false, false, false, false, false, false, false, false, false, false, false, false] (by rfl) (v := ?_) rfl rfl (by kernel_rfl) (by kernel_rfl) (by kernel_rfl) (by kernel_rfl) (fun _ _ _ h => h) (by rfl) ?_ (Till.mk' hS trivial) ?_
    rotate_left
    · rintro W ⟨hS1, hS2, hS3⟩; clear hS1 hS2 hS3; go_simp; all_goals with_reducible rfl
    try simp only [List.setIfInBounds_toArray, List.set_cons_succ, List.set_cons_zero]
    refine reg_take 18 81 32 #[true, true, true, true, true, true, true, true, true, true, true, true, true, true, true, true, true, true, true, false, false, false, false, false, false, false, false, false, false, false, false, false, false, false, false, false, false, false, false, false, false, false, false, false, false, false, false, false, false, false, false] (by rfl) (v := ?_) rfl rfl (by kernel_rfl) (by kernel_rfl) (by kernel_rfl) (by kernel_rfl) (fun _ _ _ h => h) (by rfl) ?_ (Till.mk' hS trivial) ?_
    rotate_left
    · rintro W ⟨hS1, hS2, hS3⟩; clear hS1 hS2 hS3; go_simp; all_goals with_reducible rfl
    try simp only [List.setIfInBounds_toArray, List.set_cons_succ, List.set_cons_zero]
    refine reg_take 19 82 31 #[true, true, true, true, true, true, true, true, true, true, true, true, true, true, true, true, true, true, true, true, false, false, false, false, false, false, false, false, false, false, false, false, false, false, false, false, false, false, false, false, false, false, false, false, false, false, false, false, false, false, false] (by rfl) (v := ?_) rfl rfl (by kernel_rfl) (by kernel_rfl) (by kernel_rfl) (by kernel_rfl) (fun _ _ _ h => h) (by rfl) ?_ (Till.mk' hS trivial) ?_
    rotate_left
    · rintro W ⟨hS1, hS2, hS3⟩; clear hS1 hS2 hS3; go_simp; all_goals with_reducible rfl
    try simp only [List.setIfInBounds_toArray, List.set_cons_succ, List.set_cons_zero]
    refine reg_take 20 83 30 #[true, true, true, true, true, true, true, true, true, true, true, true, true, true, true, true, true, true, true, true, true, false, false, false, false, false, false, false, false, false, false, false, false, false, false, false, false, false, false, false, false, false, false, false, false, false, false, false, false, false, false] (by rfl) (v := ?_) rfl rfl (by kernel_rfl) (by kernel_rfl) (by kernel_rfl) (by kernel_rfl) (fun _ _ _ h => h) (by rfl) ?_ (Till.mk' hS trivial) ?_
    rotate_left
    · rintro W ⟨hS1, hS2, hS3⟩; clear hS1 hS2 hS3; go_simp; all_goals with_reducible rfl
    try simp only [List.setIfInBounds_toArray, List.set_cons_succ, List.set_cons_zero]
    refine reg_take 21 84 29 #[true, true, true, true, true, true, true, true, true, true, true, true, true, true, true, true, true, true, true, true, true, true, false, false, false, false, false, false, false, false, false, false, false, false, false, false, false, false, false, false, false, false, false, false, false, false, false, false, false, false, false] (by rfl) (v := ?_) rfl rfl (by kernel_rfl) (by kernel_rfl) (by kernel_rfl) (by kernel_rfl) (fun _ _ _ h => h) (by rfl) ?_ (Till.mk' hS trivial) ?_
    rotate_left
    · rintro W ⟨hS1, hS2, hS3⟩; clear hS1 hS2 hS3; go_simp; all_goals with_reducible rfl
    try simp only [List.setIfInBounds_toArray, List.set_cons_succ, List.set_cons_zero]
    refine reg_take 22 85 28 #[true, true, true, true, true, true, true, true, true, true, true, true, true, true, true, true, true, true, true, true, true, true, true, false, false, false, false, false, false, false, false, false, false, false, false, false, false, false, false, false, false, false, false, false, false, false, false, false, false, false, false] (by rfl) (v := ?_) rfl rfl (by kernel_rfl) (by kernel_rfl) (by kernel_rfl) (by kernel_rfl) (fun _ _ _ h => h) (by rfl) ?_ (Till.mk' hS trivial) ?_
    rotate_left
    · rintro W ⟨hS1, hS2, hS3⟩; have hc1 := conv_str (P := Try.prog) (dst := 9) hS1 Try.underlying22 Try.underlying5 Try.underlying9; have hc2 := conv_str (P := Try.prog) (dst := 9) hS2 Try.underlying22 Try.underlying5 Try.underlying9; have hc3 := conv_str (P := Try.prog) (dst := 9) hS3 Try.underlying22 Try.underlying5 Try.underlying9; go_simp; all_goals with_reducible rfl
    try simp only [List.setIfInBounds_toArray, List.set_cons_succ, List.set_cons_zero]
    refine reg_take 23 86 27 #[true, true, true, true, true, true, true, true, true, true, true, true, true, true, true, true, true, true, true, true, true, true, true, true, false, false, false, false, false, false, false, false, false, false, false, false, false, false, false, false, false, false, false, false, false, false, false, false, false, false, false] (by rfl) (v := ?_) rfl rfl (by kernel_rfl) (by kernel_rfl) (by kernel_rfl) (by kernel_rfl) (fun _ _ _ h => h) (by rfl) ?_ (Till.mk' hS trivial) ?_
    rotate_left
    · rintro W ⟨hS1, hS2, hS3⟩; clear hS1 hS2 hS3; go_simp; all_goals with_reducible rfl
    try simp only [List.setIfInBounds_toArray, List.set_cons_succ, List.set_cons_zero]
    refine reg_take 24 87 26 #[true, true, true, true, true, true, true, true, true, true, true, true, true, true, true, true, true, true, true, true, true, true, true, true, true, false, false, false, false, false, false, false, false, false, false, false, false, false, false, false, false, false, false, false, false, false, false, false, false, false, false] (by rfl) (v := ?_) rfl rfl (by kernel_rfl) (by kernel_rfl) (by kernel_rfl) (by kernel_rfl) (fun _ _ _ h => h) (by rfl) ?_ (Till.mk' hS trivial) ?_
    rotate_left
    · rintro W ⟨hS1, hS2, hS3⟩; have hc1 := conv_str (P := Try.prog) (dst := 9) hS1 Try.underlying22 Try.underlying5 Try.underlying9; have hc2 := conv_str (P := Try.prog) (dst := 9) hS2 Try.underlying22 Try.underlying5 Try.underlying9; have hc3 := conv_str (P := Try.prog) (dst := 9) hS3 Try.underlying22 Try.underlying5 Try.underlying9; go_simp; all_goals with_reducible rfl
    try simp only [List.setIfInBounds_toArray, List.set_cons_succ, List.set_cons_zero]
    refine reg_take 25 88 25 #[true, true, true, true, true, true, true, true, true, true, true, true, true, true, true, true, true, true, true, true, true, true, true, true, true, true, false, false, false, false, false, false, false, false, false, false, false, false, false, false, false, false, false, false, false, false, false, false, false, false, false] (by rfl) (v := ?_) rfl rfl (by kernel_rfl) (by kernel_rfl) (by kernel_rfl) (by kernel_rfl) (fun _ _ _ h => h) (by rfl) ?_ (Till.mk' hS trivial) ?_
    rotate_left
    · rintro W ⟨hS1, hS2, hS3⟩; clear hS1 hS2 hS3; go_simp; all_goals with_reducible rfl
    try simp only [List.setIfInBounds_toArray, List.set_cons_succ, List.set_cons_zero]
    refine reg_take 26 89 24 #[true, true, true, true, true, true, true, true, true, true, true, true, true, true, true, true, true, true, true, true, true, true, true, true, true, true, true, false, false, false, false, false, false, false, false, false, false, false, false, false, false, false, false, false, false, false, false, false, false, false, false] (by rfl) (v := ?_) rfl rfl (by kernel_rfl) (by kernel_rfl) (by kernel_rfl) (by kernel_rfl) (fun _ _ _ h => h) (by rfl) ?_ (Till.mk' hS trivial) ?_
    rotate_left
    · rintro W ⟨hS1, hS2, hS3⟩; clear hS1 hS2 hS3; go_simp; all_goals with_reducible rfl
    try simp only [List.setIfInBounds_toArray, List.set_cons_succ, List.set_cons_zero]
    refine reg_take 27 90 23 #[true, true, true, true, true, true, true, true, true, true, true, true, true, true, true, true, true, true, true, true, true, true, true, true, true, true, true, true, false, false, false, false, false, false, false, false, false, false, false, false, false, false, false, false, false, false, false, false, false, false, false] (by rfl) (v := ?_) rfl rfl (by kernel_rfl) (by kernel_rfl) (by kernel_rfl) (by kernel_rfl) (fun _ _ _ h => h) (by rfl) ?_ (Till.mk' hS trivial) ?_
    rotate_left
    · rintro W ⟨hS1, hS2, hS3⟩; clear hS1 hS2 hS3; go_simp; all_goals with_reducible rfl
    try simp only [List.setIfInBounds_toArray, List.set_cons_succ, List.set_cons_zero]
    refine reg_take 28 91 22 #[true, true, true, true, true, true, true, true, true, true, true, true, true, true, true, true, true, true, true, true, true, true, true, true, true, true, true, true, true, false, false, false, false, false, false, false, false, false, false, false, false, false, false, false, false, false, false, false, false, false, false] (by rfl) (v := ?_) rfl rfl (by kernel_rfl) (by kernel_rfl) (by kernel_rfl) (by kernel_rfl) (fun _ _ _ h => h) (by rfl) ?_ (Till.mk' hS trivial) ?_
    rotate_left
    · rintro W ⟨hS1, hS2, hS3⟩; clear hS1 hS2 hS3; go_simp; all_goals with_reducible rfl
    try simp only [List.setIfInBounds_toArray, List.set_cons_succ, List.set_cons_zero]
    refine reg_take 29 92 21 #[true, true, true, true, true, true, true, true, true, true, true, true, true, true, true, true, true, true, true, true, true, true, true, true, true, true, true, true, true, true, false, false, false, false, false, false, false, false, false, false, false, false, false, false, false, false, false, false, false, false, false] (by rfl) (v := ?_) rfl rfl (by kernel_rfl) (by kernel_rfl) (by kernel_rfl) (by kernel_rfl) (fun _ _ _ h => h) (by rfl) ?_ (Till.mk' hS trivial) ?_
    rotate_left
    · rintro W ⟨hS1, hS2, hS3⟩; clear hS1 hS2 hS3; go_simp; all_goals with_reducible rfl
    try simp only [List.setIfInBounds_toArray, List.set_cons_succ, List.set_cons_zero]
    refine reg_take 30 93 20 #[true, true, true, true, true, true, true, true, true, true, true, true, true, true, true, true, true, true, true, true, true, true, true, true, true, true, true, true, true, true, true, false, false, false, false, false, false, false, false, false, false, false, false, false, false, false, false, false, false, false, false] (by rfl) (v := ?_) rfl rfl (by kernel_rfl) (by kernel_rfl) (by kernel_rfl) (by kernel_rfl) (fun _ _ _ h => h) (by rfl) ?_ (Till.mk' hS trivial) ?_
    rotate_left
    · rintro W ⟨hS1, hS2, hS3⟩; clear hS1 hS2 hS3; go_simp; all_goals with_reducible rfl
    try simp only [List.setIfInBounds_toArray, List.set_cons_succ, List.set_cons_zero]
    refine reg_take 31 94 19 #[true, true, true, true, true, true, true, true, true, true, true, true, true, true, true, true, true, true, true, true, true, true, true, true, true, true, true, true, true, true, true, true, false, false, false, false, false, false, false, false, false, false, false, false, false, false, false, false, false, false, false] (by rfl) (v := ?_) rfl rfl (by kernel_rfl) (by kernel_rfl) (by kernel_rfl) (by kernel_rfl) (fun _ _ _ h => h) (by rfl) ?_ (Till.mk' hS trivial) ?_
    rotate_left
    · rintro W ⟨hS1, hS2, hS3⟩; clear hS1 hS2 hS3; go_simp; all_goals with_reducible rfl
    try simp only [List.setIfInBounds_toArray, List.set_cons_succ, List.set_cons_zero]
    refine reg_take 32 95 18 #[true, true, true, true, true, true, true, true, true, true, true, true, true, true, true, true, true, true, true, true, true, true, true, true, true, true, true, true, true, true, true, true, true, false, false, false, false, false, false, false, false, false, false, false, false, false, false, false, false, false, false] (by rfl) (v := ?_) rfl rfl (by kernel_rfl) (by kernel_rfl) (by kernel_rfl) (by kernel_rfl) (fun _ _ _ h => h) (by rfl) ?_ (Till.mk' hS trivial) ?_
    rotate_left
    · rintro W ⟨hS1, hS2, hS3⟩; clear hS1 hS2 hS3; go_simp; all_goals with_reducible rfl
    try simp only [List.setIfInBounds_toArray, List.set_cons_succ, List.set_cons_zero]
    refine reg_take 33 96 17 #[true, true, true, true, true, true, true, true, true, true, true, true, true, true, true, true, true, true, true, true, true, true, true, true, true, true, true, true, true, true, true, true, true, true, false, false, false, false, false, false, false, false, false, false, false, false, false, false, false, false, false] (by rfl) (v := ?_) rfl rfl (by kernel_rfl) (by kernel_rfl) (by kernel_rfl) (by kernel_rfl) (fun _ _ _ h => h) (by rfl) ?_ (Till.mk' hS trivial) ?_
    rotate_left
    · rintro W ⟨hS1, hS2, hS3⟩; clear hS1 hS2 hS3; go_simp; all_goals with_reducible rfl
    try simp only [List.setIfInBounds_toArray, List.set_cons_succ, List.set_cons_zero]
    refine reg_one 34 16 #[true, true, true, true, true, true, true, true, true, true, true, true, true, true, true, true, true, true, true, true, true, true, true, true, true, true, true, true, true, true, true, true, true, true, true, false, false, false, false, false, false, false, false, false, false, false, false, false, false, false, false] (by kernel_rfl) rfl (by rfl) (by kernel_rfl) (fun K hK => ?_)
    go_simp
    refine (TN1.out).mono ?_
    rintro e ww ⟨rfl, rfl⟩
    refine hK _ _ (Till.mk' hS trivial) ?_
    clear hK K
    try simp only [List.setIfInBounds_toArray, List.set_cons_succ, List.set_cons_zero]
    refine reg_take 35 98 15 #[true, true, true, true, true, true, true, true, true, true, true, true, true, true, true, true, true, true, true, true, true, true, true, true, true, true, true, true, true, true, true, true, true, true, true, true, false, false, false, false, false, false, false, false, false, false, false, false, false, false, false] (by rfl) (v := ?_) rfl rfl (by kernel_rfl) (by kernel_rfl) (by kernel_rfl) (by kernel_rfl) (fun _ _ _ h => h) (by rfl) ?_ (Till.mk' hS trivial) ?_
    rotate_left
    · rintro W ⟨hS1, hS2, hS3⟩; clear hS1 hS2 hS3; go_simp; all_goals with_reducible rfl
    try simp only [List.setIfInBounds_toArray, List.set_cons_succ, List.set_cons_zero]
    refine reg_take 36 99 14 #[true, true, true, true, true, true, true, true, true, true, true, true, true, true, true, true, true, true, true, true, true, true, true, true, true, true, true, true, true, true, true, true, true, true, true, true, true, false, false, false, false, false, false, false, false, false, false, false, false, false, false] (by rfl) (v := ?_) rfl rfl (by kernel_rfl) (by kernel_rfl) (by kernel_rfl) (by kernel_rfl) (fun _ _ _ h => h) (by rfl) ?_ (Till.mk' hS trivial) ?_
    rotate_left
    · rintro W ⟨hS1, hS2, hS3⟩; clear hS1 hS2 hS3; go_simp; all_goals with_reducible rfl
    try simp only [List.setIfInBounds_toArray, List.set_cons_succ, List.set_cons_zero]
    refine reg_take 37 100 13 #[true, true, true, true, true, true, true, true, true, true, true, true, true, true, true, true, true, true, true, true, true, true, true, true, true, true, true, true, true, true, true, true, true, true, true, true, true, true, false, false, false, false, false, false, false, false, false, false, false, false, false] (by rfl) (v := ?_) rfl rfl (by kernel_rfl) (by kernel_rfl) (by kernel_rfl) (by kernel_rfl) (fun _ _ _ h => h) (by rfl) ?_ (Till.mk' hS trivial) ?_
    rotate_left
    · rintro W ⟨hS1, hS2, hS3⟩; clear hS1 hS2 hS3; go_simp; all_goals with_reducible rfl
    try simp only [List.setIfInBounds_toArray, List.set_cons_succ, List.set_cons_zero]
    refine reg_take 38 101 12 #[true, true, true, true, true, true, true, true, true, true, true, true, true, true, true, true, true, true, true, true, true, true, true, true, true, true, true, true, true, true, true, true, true, true, true, true, true, true, true, false, false, false, false, false, false, false, false, false, false, false, false] (by rfl) (v := ?_) rfl rfl (by kernel_rfl) (by kernel_rfl) (by kernel_rfl) (by kernel_rfl) (fun _ _ _ h => h) (by rfl) ?_ (Till.mk' hS trivial) ?_
    rotate_left
    · rintro W ⟨hS1, hS2, hS3⟩; clear hS1 hS2 hS3; go_simp; all_goals with_reducible rfl
    try simp only [List.setIfInBounds_toArray, List.set_cons_succ, List.set_cons_zero]
    refine reg_take 39 102 11 #[true, true, true, true, true, true, true, true, true, true, true, true, true, true, true, true, true, true, true, true, true, true, true, true, true, true, true, true, true, true, true, true, true, true, true, true, true, true, true, true, false, false, false, false, false, false, false, false, false, false, false] (by rfl) (v := ?_) rfl rfl (by kernel_rfl) (by kernel_rfl) (by kernel_rfl) (by kernel_rfl) (fun _ _ _ h => h) (by rfl) ?_ (Till.mk' hS trivial) ?_
    rotate_left
    · rintro W ⟨hS1, hS2, hS3⟩; clear hS1 hS2 hS3; go_simp; all_goals with_reducible rfl
    try simp only [List.setIfInBounds_toArray, List.set_cons_succ, List.set_cons_zero]
    refine reg_take 40 103 10 #[true, true, true, true, true, true, true, true, true, true, true, true, true, true, true, true, true, true, true, true, true, true, true, true, true, true, true, true, true, true, true, true, true, true, true, true, true, true, true, true, true, false, false, false, false, false, false, false, false, false, false] (by rfl) (v := ?_) rfl rfl (by kernel_rfl) (by kernel_rfl) (by kernel_rfl) (by kernel_rfl) (fun _ _ _ h => h) (by rfl) ?_ (Till.mk' hS trivial) ?_
    rotate_left
    · rintro W ⟨hS1, hS2, hS3⟩; clear hS1 hS2 hS3; go_simp; all_goals with_reducible rfl
    try simp only [List.setIfInBounds_toArray, List.set_cons_succ, List.set_cons_zero]
    refine reg_one 41 9 #[true, true, true, true, true, true, true, true, true, true, true, true, true, true, true, true, true, true, true, true, true, true, true, true, true, true, true, true, true, true, true, true, true, true, true, true, true, true, true, true, true, true, false, false, false, false, false, false, false, false, false] (by kernel_rfl) rfl (by rfl) (by kernel_rfl) (fun K hK => ?_)
    go_simp
    refine (TN2.out).mono ?_
    rintro e ww ⟨rfl, rfl⟩
    refine hK _ _ (Till.mk' hS trivial) ?_
    clear hK K
    try simp only [List.setIfInBounds_toArray, List.set_cons_succ, List.set_cons_zero]
    refine reg_take 42 105 8 #[true, true, true, true, true, true, true, true, true, true, true, true, true, true, true, true, true, true, true, true, true, true, true, true, true, true, true, true, true, true, true, true, true, true, true, true, true, true, true, true, true, true, true, false, false, false, false, false, false, false, false] (by rfl) (v := ?_) rfl rfl (by kernel_rfl) (by kernel_rfl) (by kernel_rfl) (by kernel_rfl) (fun _ _ _ h => h) (by rfl) ?_ (Till.mk' hS trivial) ?_
    rotate_left
    · rintro W ⟨hS1, hS2, hS3⟩; clear hS1 hS2 hS3; go_simp; all_goals with_reducible rfl
    try simp only [List.setIfInBounds_toArray, List.set_cons_succ, List.set_cons_zero]
    refine reg_take 43 106 7 #[true, true, true, true, true, true, true, true, true, true, true, true, true, true, true, true, true, true, true, true, true, true, true, true, true, true, true, true, true, true, true, true, true, true, true, true, true, true, true, true, true, true, true, true, false, false, false, false, false, false, false] (by rfl) (v := ?_) rfl rfl (by kernel_rfl) (by kernel_rfl) (by kernel_rfl) (by kernel_rfl) (fun _ _ _ h => h) (by rfl) ?_ (Till.mk' hS trivial) ?_
    rotate_left
    · rintro W ⟨hS1, hS2, hS3⟩; clear hS1 hS2 hS3; go_simp; all_goals with_reducible rfl
    try simp only [List.setIfInBounds_toArray, List.set_cons_succ, List.set_cons_zero]
    refine reg_take 44 107 6 #[true, true, true, true, true, true, true, true, true, true, true, true, true, true, true, true, true, true, true, true, true, true, true, true, true, true, true, true, true, true, true, true, true, true, true, true, true, true, true, true, true, true, true, true, true, false, false, false, false, false, false] (by rfl) (v := ?_) rfl rfl (by kernel_rfl) (by kernel_rfl) (by kernel_rfl) (by kernel_rfl) (fun _ _ _ h => h) (by rfl) ?_ (Till.mk' hS trivial) ?_
    rotate_left
    · rintro W ⟨hS1, hS2, hS3⟩; clear hS1 hS2 hS3; go_simp; all_goals with_reducible rfl
    try simp only [List.setIfInBounds_toArray, List.set_cons_succ, List.set_cons_zero]
    refine reg_take 45 108 5 #[true, true, true, true, true, true, true, true, true, true, true, true, true, true, true, true, true, true, true, true, true, true, true, true, true, true, true, true, true, true, true, true, true, true, true, true, true, true, true, true, true, true, true, true, true, true, false, false, false, false, false] (by rfl) (v := ?_) rfl rfl (by kernel_rfl) (by kernel_rfl) (by kernel_rfl) (by kernel_rfl) (fun _ _ _ h => h) (by rfl) ?_ (Till.mk' hS trivial) ?_
    rotate_left
    · rintro W ⟨hS1, hS2, hS3⟩; clear hS1 hS2 hS3; go_simp; all_goals with_reducible rfl
    try simp only [List.setIfInBounds_toArray, List.set_cons_succ, List.set_cons_zero]
    refine reg_take 46 109 4 #[true, true, true, true, true, true, true, true, true, true, true, true, true, true, true, true, true, true, true, true, true, true, true, true, true, true, true, true, true, true, true, true, true, true, true, true, true, true, true, true, true, true, true, true, true, true, true, false, false, false, false] (by rfl) (v := ?_) rfl rfl (by kernel_rfl) (by kernel_rfl) (by kernel_rfl) (by kernel_rfl) (fun _ _ _ h => h) (by rfl) ?_ (Till.mk' hS trivial) ?_
    rotate_left
    · rintro W ⟨hS1, hS2, hS3⟩; clear hS1 hS2 hS3; go_simp; all_goals with_reducible rfl
    try simp only [List.setIfInBounds_toArray, List.set_cons_succ, List.set_cons_zero]
    refine reg_one 47 3 #[true, true, true, true, true, true, true, true, true, true, true, true, true, true, true, true, true, true, true, true, true, true, true, true, true, true, true, true, true, true, true, true, true, true, true, true, true, true, true, true, true, true, true, true, true, true, true, true, false, false, false] (by kernel_rfl) rfl (by rfl) (by kernel_rfl) (fun K hK => ?_)
    go_simp
    refine (TN3.out).mono ?_
    rintro e ww ⟨rfl, rfl⟩
    refine hK _ _ (Till.mk' hS trivial) ?_
    clear hK K
    try simp only [List.setIfInBounds_toArray, List.set_cons_succ, List.set_cons_zero]
    refine reg_take 48 111 2 #[true, true, true, true, true, true, true, true, true, true, true, true, true, true, true, true, true, true, true, true, true, true, true, true, true, true, true, true, true, true, true, true, true, true, true, true, true, true, true, true, true, true, true, true, true, true, true, true, true, false, false] (by rfl) (v := ?_) rfl rfl (by kernel_rfl) (by kernel_rfl) (by kernel_rfl) (by kernel_rfl) (fun _ _ _ h => h) (by rfl) ?_ (Till.mk' hS trivial) ?_
    rotate_left
    · rintro W ⟨hS1, hS2, hS3⟩; clear hS1 hS2 hS3; go_simp; all_goals with_reducible rfl
    try simp only [List.setIfInBounds_toArray, List.set_cons_succ, List.set_cons_zero]
    refine reg_take 49 112 1 #[true, true, true, true, true, true, true, true, true, true, true, true, true, true, true, true, true, true, true, true, true, true, true, true, true, true, true, true, true, true, true, true, true, true, true, true, true, true, true, true, true, true, true, true, true, true, true, true, true, true, false] (by rfl) (v := ?_) rfl rfl (by kernel_rfl) (by kernel_rfl) (by kernel_rfl) (by kernel_rfl) (fun _ _ _ h => h) (by rfl) ?_ (Till.mk' hS trivial) ?_
    rotate_left
    · rintro W ⟨hS1, hS2, hS3⟩; clear hS1 hS2 hS3; go_simp; all_goals with_reducible rfl
    try simp only [List.setIfInBounds_toArray, List.set_cons_succ, List.set_cons_zero]
    refine reg_take 50 8 0 #[true, true, true, true, true, true, true, true, true, true, true, true, true, true, true, true, true, true, true, true, true, true, true, true, true, true, true, true, true, true, true, true, true, true, true, true, true, true, true, true, true, true, true, true, true, true, true, true, true, true, true] (by rfl) (v := ?_) rfl rfl (by kernel_rfl) (by kernel_rfl) (by kernel_rfl) (by kernel_rfl) (fun _ _ _ h => h) (by rfl) ?_ (Till.mk' hS trivial) ?_
    rotate_left
    · rintro W ⟨hS1, hS2, hS3⟩; clear hS1 hS2 hS3; go_simp; all_goals with_reducible rfl
    try simp only [List.setIfInBounds_toArray, List.set_cons_succ, List.set_cons_zero]
    refine reg_done (by kernel_rfl) ?_ _
    go_wp2_with fail
    go_ret
    exact ⟨rfl, bel⟩
end Go.Proofs.Ytemhlnjnbccpgaa
