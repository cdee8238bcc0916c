/- The law DiskPages, walked. -/
import Derived.Test.YtemhlnjnbccpgaaDLaw
import Derived.Test.YtemhlnjnbccpgaaWithinL
namespace Go.Proofs.Ytemhlnjnbccpgaa
open Go.RowKit
set_option linter.unusedVariables false
set_option linter.unusedSimpArgs false
set_option linter.unnecessarySimpa false

def pgs (b c : List UInt8) (p q : Nat) : DS := ((fresh 8).wrote p (pageOf b)).wrote q (pageOf c)
/-- What a page holds. -/
def wantOf (b c : List UInt8) (p q k : Nat) : List UInt8 := if k = q then pageOf c else if k = p then pageOf b else zeros 64
theorem pgs_page (b c : List UInt8) (p q k : Nat) (hb : b.length ≤ 64) (hc : c.length ≤ 64) (hp : p < 8) (hq : q < 8) (hk : k < 8) : pageAt (pgs b c p q).now k = wantOf b c p q k := by
  have l1 := pageOf_length b hb
  have l2 := pageOf_length c hc
  have hl : (spl (fresh 8).now (p * 64) (pageOf b)).length = 8 * 64 := by rw [spl_length]; exact fresh_len 8
  unfold pgs wantOf
  rw [wrote_now _ _ _ (wrote_left _ _ _ rfl rfl) (wrote_dead _ _ _ rfl rfl), wrote_now _ _ _ rfl rfl]
  by_cases h1 : k = q
  · subst h1; rw [if_pos rfl]; exact pageAt_spl _ _ 8 _ hl hk l2
  · rw [if_neg h1, pageAt_spl_ne _ _ _ _ (Ne.symm h1) l2]
    by_cases h2 : k = p
    · subst h2; rw [if_pos rfl]; exact pageAt_spl _ _ 8 _ (fresh_len 8) hk l1
    · rw [if_neg h2, pageAt_spl_ne _ _ _ _ (Ne.symm h2) l1, fresh_page 8 k hk]

theorem lw_same {X : List Nat} {w w' : World} {x n : Nat} {xs : List Value} (h : Sl w w.heap.size 1 (.slice (some ⟨x, 0, none⟩) n n) n xs) (sm : Same X w w') (hx : x ∈ X := by simp) : Sl w' w'.heap.size 1 (.slice (some ⟨x, 0, none⟩) n n) n xs := by
  obtain ⟨hl, A, c, he, h1, h2, h3, hr⟩ := h
  refine ⟨hl, A, c, he, h1, h2, h3, fun hn => ?_⟩
  obtain ⟨b, off, rfl, hb, hc⟩ := hr hn
  injection he with e1 e2 e3
  injection e1 with e1
  injection e1 with e1 e4 e5
  subst e1 e4
  have hh := sm x hx
  refine ⟨x, 0, rfl, ?_, fun j u hu => (World.cell?_of_block hh).trans (hc j u hu)⟩
  rcases Nat.lt_or_ge x w'.heap.size with h | h
  · exact h
  · rw [Array.getElem?_eq_none h, Array.getElem?_eq_getElem hb] at hh
    cases hh

set_option maxRecDepth 100000 in
set_option maxHeartbeats 4000000 in
theorem DiskPages_walk (zp zq : Int) (Ab Ac : Option Addr) (nb cb nc cc : Nat) (b c : List UInt8) (w : World) (hzp : -9223372036854775808 ≤ zp ∧ zp ≤ 9223372036854775807) (hzq : -9223372036854775808 ≤ zq ∧ zq ≤ 9223372036854775807)
    (hb : Sl w w.heap.size 1 (.slice Ab nb cb) nb (bvs b)) (hc : Sl w w.heap.size 1 (.slice Ac nc cc) nc (bvs c)) :
    Calls Try.prog 4 #[.int .i64 zp, .slice Ab nb cb, .int .i64 zq, .slice Ac nc cc] w fun e w' => e = .returned (.bool true) ∧ Below w.heap.size w w' := by
  have KN := Lib.hid (known_any w)
  have mb : nb ≤ 9223372036854775807 := by
    obtain ⟨_, _, _, ee, h1, h2, _⟩ := hb
    injection ee with _ _ e3
    subst e3
    unfold maxLen at h2; omega
  have mc : nc ≤ 9223372036854775807 := by
    obtain ⟨_, _, _, ee, h1, h2, _⟩ := hc
    injection ee with _ _ e3
    subst e3
    unfold maxLen at h2; omega
  have lb := hb.1
  have lc := hc.1
  rw [bvs_length] at lb lc
  by_cases hb64 : 64 < nb
  · clear hb hc lb lc
    go_enter Try.func4, Try.ntmps4
    go_wp2_with fail
    refine KN.out.mono ?_
    rintro e w1 ⟨rfl, bel1⟩
    clear KN
    go_wp2_with fail
    go_ret
    exact ⟨rfl, bel1⟩
  by_cases hc64 : 64 < nc
  · clear hb hc lb lc
    go_enter Try.func4, Try.ntmps4
    go_wp2_with fail
    refine KN.out.mono ?_
    rintro e w1 ⟨rfl, bel1⟩
    clear KN
    go_wp2_with fail
    go_ret
    exact ⟨rfl, bel1⟩
  obtain rfl : nb = b.length := by omega
  obtain rfl : nc = c.length := by omega
  have hbl : b.length ≤ 64 := by omega
  have hcl : c.length ≤ 64 := by omega
  clear lb lc
  obtain ⟨p, hp⟩ : ∃ p : Nat, zp % 8 = p := ⟨(zp % 8).toNat, by omega⟩
  obtain ⟨q, hq⟩ : ∃ q : Nat, zq % 8 = q := ⟨(zq % 8).toNat, by omega⟩
  have hp8 : p < 8 := by omega
  have hq8 : q < 8 := by omega
  have W1 := fun W => within_any zp 8 W hzp.1 hzp.2 (by omega) (by omega)
  have W2 := fun W => within_any zq 8 W hzq.1 hzq.2 (by omega) (by omega)
  rw [hp] at W1
  rw [hq] at W2
  have W1' := Lib.hid W1
  have W2' := Lib.hid W2
  clear W1 W2 hp hq
  have PG := Lib.hid (fun k hk => pgs_page b c p q k hbl hcl hp8 hq8 hk)
  go_enter Try.func4, Try.ntmps4
  go_wp2_with fail
  refine KN.out.mono ?_
  rintro e w1 ⟨rfl, bel1⟩
  clear KN
  have NW := Lib.hid (New_at 8 (by omega) (by omega) bel1)
  go_wp2_with fail
  refine NW.out.mono ?_
  rintro e w2 ⟨B, g, rfl, hA2, -⟩
  clear NW bel1
  go_wp2_with fail
  refine (W1'.out w2).mono ?_
  rintro e ww ⟨rfl, rfl⟩
  go_wp2_with fail
  refine (W2'.out w2).mono ?_
  rintro e ww ⟨rfl, rfl⟩
  clear W1' W2'
  have WR := Write_at hA2 p _ _ b (hA2.arg hb) (by omega) (by omega) rfl (by show 0 ≤ _; omega)
  rw [code_ok _ rfl] at WR
  have WR' := Lib.hid WR
  clear WR
  go_wp2_with fail
  refine WR'.out.mono ?_
  rintro e w3 ⟨rfl, hA3, -⟩
  clear WR'
  have WR := Write_at hA3 q _ _ c (hA3.arg hc) (by omega) (by omega) (wrote_dead _ _ _ rfl rfl) (by rw [wrote_writes _ _ _ rfl rfl]; show 1 ≤ _; omega)
  rw [code_ok _ (wrote_left _ _ _ rfl rfl)] at WR
  have WR' := Lib.hid WR
  clear WR hA2
  go_wp2_with fail
  refine WR'.out.mono ?_
  rintro e w4 ⟨rfl, hA4, -⟩
  clear WR' hA3
  have hA4' : At w w4 B g 8 (pgs b c p q) [] := hA4
  have hdead : (pgs b c p q).dead = false := wrote_dead _ _ _ (wrote_left _ _ _ rfl rfl) (wrote_dead _ _ _ rfl rfl)
  clear hA4
  have mk := run_make64
  have RD := Lib.hid (fun W X (hA : At w W B g 8 (pgs b c p q) X) k (hk : k < 8) => Read_at hA k hk hdead)
  have PA := Lib.hid (fun W X (hA : At w W B g 8 (pgs b c p q) X) => Pages_at hA)
  clear hdead
  go_wp2_with fail
  go_loopw [11] (fun i wr => ∃ k : Nat, k ≤ 8 ∧ i = .int .i64 k ∧ At w wr B g 8 (pgs b c p q) []) (fun i _ => 8 - (intOf i).toNat)
  case atStart => exact ⟨0, by omega, rfl, hA4'⟩
  case round =>
    clear hA4'
    obtain ⟨k, hk, rfl, hA⟩ := hrel
    by_cases hlt : k < 8
    · have PG' := PG.out k hlt
      unfold wantOf at PG'
      have hA0 := hA.alloc (.cells (bvs (zeros 64)).toArray 5)
      have hB0 := Blk.new wr (bvs (zeros 64)) 5
      by_cases hkp : k = p
      · have ekp : ((k : Int) == (p : Int)) = true := by simp [hkp]
        by_cases hkq : k = q
        · have ekq : ((k : Int) == (q : Int)) = true := by simp [hkq]
          rw [if_pos hkq] at PG'
          have PH := Lib.hid PG'
          clear PG' hkp hkq
          obtain ⟨v5, w5, hr5, rfl, hb5, t5⟩ := run_copy_blk (P := Try.prog) (s := 22) (dLen := 64) (dCap := 64) (o := 0) T8 3 hB0 (hA0.arg hb) (bvs_one _) (by rw [bvs_length, zeros_length]; omega)
          rw [laid_page b hbl] at hb5
          have hA5 := hA0.turn t5 (by simp)
          have hB5 : Blk w5 wr.heap.size _ _ := hb5
          have t5s := t5.size
          clear hA0 hB0 t5 hb5
          have hA6 := hA5.alloc (.cells (bvs (zeros 64)).toArray 5)
          have hB6 := Blk.new w5 (bvs (zeros 64)) 5
          clear hA5 hB5
          obtain ⟨v7, w7, hr7, rfl, hb7, t7⟩ := run_copy_blk (P := Try.prog) (s := 22) (dLen := 64) (dCap := 64) (o := 0) T8 3 hB6 (hA6.arg hc) (bvs_one _) (by rw [bvs_length, zeros_length]; omega)
          rw [laid_page c hcl] at hb7
          have hA7 := hA6.turn t7 (by simp)
          have hB7 : Blk w7 w5.heap.size _ _ := hb7
          clear hA6 hB6 t7 hb7
          have lw := (hB7).sl 0 64 64 1 (by rw [bvs_length, pageOf_length _ hcl]; omega) (Nat.le_refl _) (by simp [maxLen])
          rw [List.drop_zero, List.take_of_length_le (by rw [bvs_length, pageOf_length _ hcl]; omega)] at lw
          have side := hA7.side w5.heap.size (by simp)
          go_wp2_with fail
          refine (RD.out _ _ hA7 k hlt).mono ?_
          rintro e w9 ⟨x, c9, rfl, hsl, -, -, -, hA9, sm9⟩
          rw [PH.out] at hsl
          have lw9 : Sl w9 w9.heap.size 1 (.slice (some ⟨w5.heap.size, 0, none⟩) 64 64) 64 (bvs (pageOf c)) := lw_same lw sm9
          have cs1 := conv_str (P := Try.prog) (dst := 9) hsl Try.underlying22 Try.underlying5 Try.underlying9
          have cs2 := conv_str (P := Try.prog) (dst := 9) lw9 Try.underlying22 Try.underlying5 Try.underlying9
          have hA10 := hA9.sub (Y := []) (by simp)
          clear hsl lw lw9 sm9 hA9 hA7
          go_wp2_with fail
          go_roundw
          case rel => exact ⟨k + 1, by omega, by go_num, hA10⟩
          case measure => (simp [intOf] <;> omega)
        · have ekq : ((k : Int) == (q : Int)) = false := by rw [beq_eq_false_iff_ne]; omega
          rw [if_neg hkq, if_pos hkp] at PG'
          have PH := Lib.hid PG'
          clear PG' hkp hkq
          obtain ⟨v5, w5, hr5, rfl, hb5, t5⟩ := run_copy_blk (P := Try.prog) (s := 22) (dLen := 64) (dCap := 64) (o := 0) T8 3 hB0 (hA0.arg hb) (bvs_one _) (by rw [bvs_length, zeros_length]; omega)
          rw [laid_page b hbl] at hb5
          have hA5 := hA0.turn t5 (by simp)
          have hB5 : Blk w5 wr.heap.size _ _ := hb5
          have t5s := t5.size
          clear hA0 hB0 t5 hb5
          have lw := (hB5).sl 0 64 64 1 (by rw [bvs_length, pageOf_length _ hbl]; omega) (Nat.le_refl _) (by simp [maxLen])
          rw [List.drop_zero, List.take_of_length_le (by rw [bvs_length, pageOf_length _ hbl]; omega)] at lw
          have side := hA5.side wr.heap.size (by simp)
          go_wp2_with fail
          refine (RD.out _ _ hA5 k hlt).mono ?_
          rintro e w9 ⟨x, c9, rfl, hsl, -, -, -, hA9, sm9⟩
          rw [PH.out] at hsl
          have lw9 : Sl w9 w9.heap.size 1 (.slice (some ⟨wr.heap.size, 0, none⟩) 64 64) 64 (bvs (pageOf b)) := lw_same lw sm9
          have cs1 := conv_str (P := Try.prog) (dst := 9) hsl Try.underlying22 Try.underlying5 Try.underlying9
          have cs2 := conv_str (P := Try.prog) (dst := 9) lw9 Try.underlying22 Try.underlying5 Try.underlying9
          have hA10 := hA9.sub (Y := []) (by simp)
          clear hsl lw lw9 sm9 hA9 hA5
          go_wp2_with fail
          go_roundw
          case rel => exact ⟨k + 1, by omega, by go_num, hA10⟩
          case measure => (simp [intOf] <;> omega)
      · have ekp : ((k : Int) == (p : Int)) = false := by rw [beq_eq_false_iff_ne]; omega
        by_cases hkq : k = q
        · have ekq : ((k : Int) == (q : Int)) = true := by simp [hkq]
          rw [if_pos hkq] at PG'
          have PH := Lib.hid PG'
          clear PG' hkp hkq
          have hA6 := hA0.alloc (.cells (bvs (zeros 64)).toArray 5)
          have hB6 := Blk.new (wr.alloc (.cells (bvs (zeros 64)).toArray 5)) (bvs (zeros 64)) 5
          rw [show (wr.alloc (.cells (bvs (zeros 64)).toArray 5)).heap.size = wr.heap.size + 1 by simp] at hA6 hB6
          clear hA0 hB0
          obtain ⟨v7, w7, hr7, rfl, hb7, t7⟩ := run_copy_blk (P := Try.prog) (s := 22) (dLen := 64) (dCap := 64) (o := 0) T8 3 hB6 (hA6.arg hc) (bvs_one _) (by rw [bvs_length, zeros_length]; omega)
          rw [laid_page c hcl] at hb7
          have hA7 := hA6.turn t7 (by simp)
          have hB7 : Blk w7 (wr.heap.size + 1) _ _ := hb7
          clear hA6 hB6 t7 hb7
          have lw := (hB7).sl 0 64 64 1 (by rw [bvs_length, pageOf_length _ hcl]; omega) (Nat.le_refl _) (by simp [maxLen])
          rw [List.drop_zero, List.take_of_length_le (by rw [bvs_length, pageOf_length _ hcl]; omega)] at lw
          have side := hA7.side (wr.heap.size + 1) (by simp)
          go_wp2_with fail
          refine (RD.out _ _ hA7 k hlt).mono ?_
          rintro e w9 ⟨x, c9, rfl, hsl, -, -, -, hA9, sm9⟩
          rw [PH.out] at hsl
          have lw9 : Sl w9 w9.heap.size 1 (.slice (some ⟨wr.heap.size + 1, 0, none⟩) 64 64) 64 (bvs (pageOf c)) := lw_same lw sm9
          have cs1 := conv_str (P := Try.prog) (dst := 9) hsl Try.underlying22 Try.underlying5 Try.underlying9
          have cs2 := conv_str (P := Try.prog) (dst := 9) lw9 Try.underlying22 Try.underlying5 Try.underlying9
          have hA10 := hA9.sub (Y := []) (by simp)
          clear hsl lw lw9 sm9 hA9 hA7
          go_wp2_with fail
          go_roundw
          case rel => exact ⟨k + 1, by omega, by go_num, hA10⟩
          case measure => (simp [intOf] <;> omega)
        · have ekq : ((k : Int) == (q : Int)) = false := by rw [beq_eq_false_iff_ne]; omega
          rw [if_neg hkq, if_neg hkp] at PG'
          have PH := Lib.hid PG'
          clear PG' hkp hkq
          have lw := (hB0).sl 0 64 64 1 (by rw [bvs_length, zeros_length]; omega) (Nat.le_refl _) (by simp [maxLen])
          rw [List.drop_zero, List.take_of_length_le (by rw [bvs_length, zeros_length]; omega)] at lw
          have side := hA0.side wr.heap.size (by simp)
          go_wp2_with fail
          refine (RD.out _ _ hA0 k hlt).mono ?_
          rintro e w9 ⟨x, c9, rfl, hsl, -, -, -, hA9, sm9⟩
          rw [PH.out] at hsl
          have lw9 : Sl w9 w9.heap.size 1 (.slice (some ⟨wr.heap.size, 0, none⟩) 64 64) 64 (bvs (zeros 64)) := lw_same lw sm9
          have cs1 := conv_str (P := Try.prog) (dst := 9) hsl Try.underlying22 Try.underlying5 Try.underlying9
          have cs2 := conv_str (P := Try.prog) (dst := 9) lw9 Try.underlying22 Try.underlying5 Try.underlying9
          have hA10 := hA9.sub (Y := []) (by simp)
          clear hsl lw lw9 sm9 hA9 hA0
          go_wp2_with fail
          go_roundw
          case rel => exact ⟨k + 1, by omega, by go_num, hA10⟩
          case measure => (simp [intOf] <;> omega)
    · obtain rfl : k = 8 := by omega
      have bel := hA.bel
      go_wp2_with fail
      refine (PA.out wr [] hA).mono ?_
      rintro e ww ⟨rfl, rfl⟩
      go_wp2_with fail
      go_ret
      exact ⟨rfl, bel⟩
end Go.Proofs.Ytemhlnjnbccpgaa
