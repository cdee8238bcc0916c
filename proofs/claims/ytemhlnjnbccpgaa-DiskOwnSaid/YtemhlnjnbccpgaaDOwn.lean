/- The law DiskOwn, walked. -/
import Derived.Test.YtemhlnjnbccpgaaKnown7
import Derived.Test.YtemhlnjnbccpgaaRegl
namespace Go.Proofs.Ytemhlnjnbccpgaa
open Go.RowKit
set_option linter.unusedVariables false
set_option linter.unusedSimpArgs false
set_option linter.unnecessarySimpa false

/-- A new disk of so many pages. -/
def fresh (p : Nat) : DS := ⟨0, false, List.replicate (p * 64) 0, List.replicate (p * 64) 0, []⟩
theorem fresh_page (p n : Nat) (h : n < p) : pageAt (fresh p).now n = zeros 64 := by
  unfold pageAt fresh zeros
  apply List.ext_getElem?
  intro k
  simp only [List.getElem?_take, List.getElem?_drop, List.getElem?_replicate]
  by_cases hk : k < 64
  · rw [if_pos hk, if_pos (by omega), if_pos hk]
  · rw [if_neg hk, if_neg hk]
theorem pageAt_length (l : List UInt8) (n p : Nat) (hl : l.length = p * 64) (hn : n < p) : (pageAt l n).length = 64 := by
  unfold pageAt; rw [List.length_take, List.length_drop]; omega
theorem pageAt_spl (l : List UInt8) (n p : Nat) (pg : List UInt8) (hl : l.length = p * 64) (hn : n < p) (hpg : pg.length = 64) : pageAt (spl l (n * 64) pg) n = pg := by
  unfold pageAt
  apply List.ext_getElem?
  intro k
  rw [List.getElem?_take, List.getElem?_drop]
  by_cases hk : k < 64
  · rw [if_pos hk, spl_in _ _ _ _ (by omega) (by omega)]
  · rw [if_neg hk, List.getElem?_eq_none (by omega)]
theorem pageAt_spl_ne (l : List UInt8) (n m : Nat) (pg : List UInt8) (hnm : n ≠ m) (hpg : pg.length = 64) : pageAt (spl l (n * 64) pg) m = pageAt l m := by
  unfold pageAt
  apply List.ext_getElem?
  intro k
  rw [List.getElem?_take, List.getElem?_take, List.getElem?_drop, List.getElem?_drop]
  by_cases hk : k < 64
  · rw [if_pos hk, if_pos hk, spl_out _ _ _ _ (by rcases Nat.lt_or_gt_of_ne hnm with h | h <;> omega)]
  · rw [if_neg hk, if_neg hk]
/-- Two disks that lie apart. -/
theorem apart_of {w : World} {B' p' : Nat} {D O : DL} {st' : DS} (h : ∀ x ∈ D.all, x < B') (k : DiskIs w B' O p' st') : ∀ x ∈ D.all, x ∉ O.all := fun x hx hm => by
  have := h x hx; have := k.lowAll x hm; omega
theorem apart_did {w w' : World} {B B' p p' : Nat} {D D' O : DL} {st so : DS} (h : DiskDid w B D p st w' D') (k : DiskIs w B' O p' so) (ha : ∀ x ∈ D.all, x ∉ O.all) : ∀ x ∈ D'.all, x ∉ O.all := fun x hx hm => by
  rcases h.fresh x hx with h1 | h1
  · exact ha x h1 hm
  · have := k.lt x hm; omega

def u8up (b : UInt8) : Int := IntKind.u8.wrap ((b.toNat : Int) + 1)

set_option maxRecDepth 100000 in
set_option maxHeartbeats 2000000 in
theorem DiskOwn_walk (A : Option Addr) (n c : Nat) (bs : List UInt8) (w : World) (hb : Sl w w.heap.size 1 (.slice A n c) n (bvs bs)) :
    Calls Try.prog 3 #[.slice A n c] w fun e w' => e = .returned (.bool true) ∧ Below w.heap.size w w' := by
  have KN := Lib.hid (known_any w)
  have hl0 := hb.1
  rw [bvs_length] at hl0
  by_cases h0 : n = 0
  · subst h0
    clear hb hl0
    go_enter Try.func3, Try.ntmps3
    go_wp2_with fail
    refine KN.out.mono ?_
    rintro e w1 ⟨rfl, bel1⟩
    go_wp2_with fail
    go_ret
    exact ⟨rfl, bel1⟩
  by_cases h64 : 64 < n
  · have hm : n ≤ 9223372036854775807 := by
      obtain ⟨_, _, _, ee, h1, h2, _⟩ := hb
      injection ee with _ _ e3
      subst e3
      unfold maxLen at h2; omega
    have hn0 : ((n : Int) == 0) = false := by simpa using h0
    clear hb hl0
    go_enter Try.func3, Try.ntmps3
    go_wp2_with fail
    refine KN.out.mono ?_
    rintro e w1 ⟨rfl, bel1⟩
    go_wp2_with fail
    go_ret
    exact ⟨rfl, bel1⟩
  obtain rfl : n = bs.length := by omega
  have h64' : bs.length ≤ 64 := by omega
  have hpos : 0 < bs.length := by omega
  have NW := Lib.hid (fun W => New_any 3 (by omega) (by omega) W)
  have hb' := hb
  obtain ⟨_, _, _, ee, h1, h2, _, hrd⟩ := hb'
  injection ee with e1 _ e3
  subst e1 e3
  obtain ⟨gb, ob, rfl, hgb, hcb⟩ := Rd.at_ hrd (k := 0) (by rw [bvs_length]; exact hpos)
  obtain ⟨b0, rest, rfl⟩ : ∃ b r, bs = b :: r := by cases bs with
    | nil => simp at hpos
    | cons b r => exact ⟨b, r, rfl⟩
  have hcb0 : w.cell? ⟨gb, ob, none⟩ = some (.int .u8 (b0.toNat : Int)) := hcb
  obtain ⟨n, hn⟩ : ∃ n, n = (b0 :: rest).length := ⟨_, rfl⟩
  rw [← hn] at hb hpos h64' h1 h0 h64 hl0 ⊢
  have hn' := Lib.hid hn
  have hn0 : ((n : Int) == 0) = false := by simpa using h0
  clear hn h0 h64 hl0 hcb hrd h2 h1
  go_enter Try.func3, Try.ntmps3
  go_wp2_with fail
  refine KN.out.mono ?_
  rintro e w1 ⟨rfl, bel1⟩
  clear KN
  go_wp2_with fail
  refine (NW.out w1).mono ?_
  rintro e w2 ⟨D, rfl, d2, bel2⟩
  go_wp2_with fail
  refine (NW.out w2).mono ?_
  rintro e w3 ⟨O, rfl, o3, bel3⟩
  clear NW
  have apart := apart_of (fun x hx => d2.lt x hx) o3
  have d3 := d2.turns (Turns.of_below (L := []) bel3) (by simp)
  have belw3 := bel1.trans ((bel2.trans (bel3.mono bel2.size)).mono bel1.size)
  have hb3 := hb.below belw3
  have bel1s := bel1.size
  clear d2 bel1 bel2 bel3
  go_wp2_with (at_builtin; refine wpList_append _ rfl (.tmp 32) (.tmp 33) rfl (run_fresh_copy w3 hb3 belw3.size (by omega) _) rfl rfl ?_; rintro v4 w4 ⟨own4, t4⟩)
  obtain ⟨gm, cm, rfl, hnm, hcm, hbm, hgm, hcells⟩ := own_cells own4 hpos
  obtain ⟨c0, f0⟩ := hcells 0 _ rfl
  have d4 := d3.turns t4 (by simp)
  have hgmO : gm ∉ O.all := fun hm => by have := o3.lt _ hm; omega
  have o4 := o3.turns t4 (by simp)
  have hgmD : gm ∉ D.all := fun hm => by have := d3.lt _ hm; omega
  have WR := Write_any _ _ D 3 1 (fresh 3) _ n (b0 :: rest) d4 (Sl.of_own own4) (by omega) (by rw [← hn'.out]; exact h64') rfl (by show 0 ≤ _; omega)
  rw [show (fresh 3).code = 0 from rfl] at WR
  have WR' := Lib.hid WR
  clear WR hcells own4 d3 o3
  go_wp2_with fail
  refine WR'.out.mono ?_
  rintro e w5 ⟨D5, rfl, hd5⟩
  clear WR'
  have d5 := hd5.is
  have eg := hd5.same.1
  have o5 := o4.turns hd5.turns apart
  have apart5 := apart_did hd5 o4 apart
  have c0 : w5.cell? ⟨gm, 0, none⟩ = some (.int .u8 (b0.toNat : Int)) := (World.cell?_of_block (hd5.turns.block gm hgm hgmD)).trans c0
  have f0 : w5.frozen? ⟨gm, 0, none⟩ = false := by rw [World.frozen?_of_block (hd5.turns.block gm hgm hgmD)]; exact f0
  have bw1 : w.heap.size ≤ w1.heap.size := bel1s
  have belw4 : Below w.heap.size w w4 := belw3.trans ((t4.below (Nat.le_refl _) (by simp)).mono belw3.size)
  have belw5 : Below w.heap.size w w5 := belw4.trans (hd5.turns.below belw4.size (fun x hx => Nat.le_trans bw1 (d4.lowAll x hx)))
  have hgm5 : gm ∉ D5.all := fun hm => by rcases hd5.fresh _ hm with h | h; exact hgmD h; omega
  have hgmw : w.heap.size ≤ gm := Nat.le_trans belw3.size hbm
  have t6 := (Turns.refl [gm] w5).setCell (p := ⟨gm, 0, none⟩) (.inl (by simp)) (.int .u8 (u8up b0))
  have d6 := d5.turns t6 (by simpa using hgm5)
  have o6 := o5.turns t6 (by simpa using hgmO)
  have belw6 := belw5.trans (t6.below belw5.size (by simpa using hgmw))
  have upb : IntKind.u8.wrap ((b0.toNat : Int) + 1) = u8up b0 := rfl
  clear t6 o5 d5 belw5 belw4 d4 o4 t4 hd5 hgm hgmD hgm5 hgmO
  have RD := fun W (h : DiskIs W w1.heap.size D5 3 ((fresh 3).wrote 1 (pageOf (b0 :: rest)))) => Read_any W _ D5 3 1 _ h (by omega) rfl
  rw [eg] at RD
  have RD' := Lib.hid RD
  have RO := Lib.hid (fun W (h : DiskIs W w2.heap.size O 3 (fresh 3)) => Read_any W _ O 3 1 _ h (by omega) rfl)
  have hpg : pageAt ((fresh 3).wrote 1 (pageOf (b0 :: rest))).now 1 = pageOf (b0 :: rest) := pageAt_spl _ 1 3 _ (by simp [fresh]) (by omega) (pageOf_length _ (by rw [← hn'.out]; exact h64'))
  rw [hpg] at RD'
  have hpo := Lib.hid (fresh_page 3 1 (by omega))
  have hpg0 : (bvs (pageOf (b0 :: rest)))[0]? = some (.int .u8 (b0.toNat : Int)) := rfl
  clear RD hpg
  go_wp2_with fail
  rw [← upb]
  rw [upb]
  generalize w5.setCell ⟨gm, 0, none⟩ (.int .u8 (u8up b0)) = w6 at *
  refine (RD'.out w6 d6).mono ?_
  rintro e w7 ⟨v7, rfl, own7, bel7⟩
  obtain ⟨gx, cx, rfl, hnx, hcx, hbx, hgx, hx⟩ := own_cells own7 (by omega)
  obtain ⟨x0, xf⟩ := hx 0 _ hpg0
  have t7 := Turns.of_below (L := []) bel7
  have d7 := d6.turns t7 (by simp)
  have o7 := o6.turns t7 (by simp)
  have belw7 := belw6.trans (bel7.mono belw6.size)
  have t8 := (Turns.refl [gx] w7).setCell (p := ⟨gx, 0, none⟩) (.inl (by simp)) (.int .u8 (u8up b0))
  have d8 := d7.turns t8 (by intro x hx hm; simp at hx; subst hx; have := d6.lt _ hm; omega)
  have o8 := o7.turns t8 (by intro x hx hm; simp at hx; subst hx; have := o6.lt _ hm; omega)
  have belw8 := belw7.trans (t8.below belw7.size (by intro x hx; simp at hx; subst hx; exact Nat.le_trans belw6.size hbx))
  clear hx own7 t7 d7 o7 belw7 t8 d6 o6 belw6 bel7 c0 f0
  go_wp2_with fail
  generalize w7.setCell ⟨gx, 0, none⟩ (.int .u8 (u8up b0)) = w8 at *
  clear upb x0 xf
  refine (RD'.out w8 d8).mono ?_
  rintro e w9 ⟨v9, rfl, own9, bel9⟩
  obtain ⟨gy, cy, rfl, hny, hcy, hby, hgy, hy⟩ := own_cells own9 (by omega)
  obtain ⟨y0, yf⟩ := hy 0 _ hpg0
  have o9 := o8.turns (Turns.of_below (L := []) bel9) (by simp)
  have belw9 := belw8.trans (bel9.mono belw8.size)
  clear hy own9 d8 o8 RD' yf
  go_wp2_with fail
  refine (RO.out w9 o9).mono ?_
  rintro e w10 ⟨vz, rfl, ownz, bel10⟩
  rw [hpo.out] at ownz
  have hsz := Sl.of_own ownz
  have belw10 := belw9.trans (bel10.mono belw9.size)
  obtain ⟨Az, cz, rfl⟩ := own_form ownz
  have hS : (fun W => W.cell? ⟨gy, 0, none⟩ = some (.int .u8 (b0.toNat : Int)) ∧ W.cell? ⟨gb, ob, none⟩ = some (.int .u8 (b0.toNat : Int)) ∧ Sl W w10.heap.size 1 (.slice Az 64 cz) 64 (bvs (zeros 64))) w10 := ⟨(bel10.cell (p := ⟨gy, 0, none⟩) hgy).trans y0, (belw10.cell (p := ⟨gb, ob, none⟩) hgb).trans hcb0, hsz⟩
  have hS' : (fun W => W.cell? ⟨gy, 0, none⟩ = some (.int .u8 (b0.toNat : Int)) ∧ W.cell? ⟨gb, ob, none⟩ = some (.int .u8 (b0.toNat : Int)) ∧ Sl W w10.heap.size 1 (.slice Az 64 cz) 64 (bvs (zeros 64))) w10.drew := ⟨hS.1, hS.2.1, hsz.drew⟩
  have ly : gy < w10.heap.size := Nat.lt_of_lt_of_le hgy bel10.size
  have lb : gb < w10.heap.size := Nat.lt_of_lt_of_le hgb belw10.size
  have mk := run_make64
  have hsl9 : Sl (w10.alloc (.cells (bvs (zeros 64)).toArray 5)).drew _ 1 (.slice (some ⟨w10.heap.size, 0, none⟩) 64 64) 64 _ := (Blk.new w10.drew (bvs (zeros 64)) 5).sl 0 64 64 1 (by rw [bvs_length, zeros_length]; omega) (Nat.le_refl _) (by simp [maxLen])
  rw [List.drop_zero, List.take_of_length_le (by rw [bvs_length, zeros_length]; omega)] at hsl9
  have hS10 : (fun W => W.cell? ⟨gy, 0, none⟩ = some (.int .u8 (b0.toNat : Int)) ∧ W.cell? ⟨gb, ob, none⟩ = some (.int .u8 (b0.toNat : Int)) ∧ Sl W w10.heap.size 1 (.slice Az 64 cz) 64 (bvs (zeros 64))) (w10.drew.alloc (.cells (bvs (zeros 64)).toArray 5)) := ⟨(World.cell?_alloc_lt w10.drew _ _ ly).trans hS.1, (World.cell?_alloc_lt w10.drew _ _ lb).trans hS.2.1, hS.2.2.keep (fun p hp => World.cell?_alloc_lt w10.drew _ _ hp)⟩
  have fin := (belw10.drew).alloc belw10.size (.cells (bvs (zeros 64)).toArray 5)
  clear o9 RO hpo ownz bel9 bel10 hsz y0 hcb0
  go_wp2_with fail
  refine reg_begin (fun W => W.cell? ⟨gy, 0, none⟩ = some (.int .u8 (b0.toNat : Int)) ∧ W.cell? ⟨gb, ob, none⟩ = some (.int .u8 (b0.toNat : Int)) ∧ Sl W w10.heap.size 1 (.slice Az 64 cz) 64 (bvs (zeros 64))) (fun _ => True) 15 15 #[false, false, false, false, false, false, false, false, false, false, false, false, false, false, false] (by kernel_rfl) (by kernel_rfl) (by kernel_rfl) ?_
  refine reg_take 0 63 14 #[true, false, false, false, false, false, false, false, false, false, false, false, false, false, false] (by rfl) (v := ?_) rfl rfl (by kernel_rfl) (by kernel_rfl) (by kernel_rfl) (by kernel_rfl) (fun _ _ _ h => h) (by rfl) ?_ (Till.mk' hS' trivial) ?_
  rotate_left
  · rintro W ⟨hS1, hS2, hS3⟩; go_simp; all_goals with_reducible rfl
  try simp only [List.setIfInBounds_toArray, List.set_cons_succ, List.set_cons_zero]
  refine reg_take 1 64 13 #[true, true, false, false, false, false, false, false, false, false, false, false, false, false, false] (by rfl) (v := ?_) rfl rfl (by kernel_rfl) (by kernel_rfl) (by kernel_rfl) (by kernel_rfl) (fun _ _ _ h => h) (by rfl) ?_ (Till.mk' hS' trivial) ?_
  rotate_left
  · rintro W ⟨hS1, hS2, hS3⟩; go_simp; all_goals with_reducible rfl
  try simp only [List.setIfInBounds_toArray, List.set_cons_succ, List.set_cons_zero]
  refine reg_take 2 65 12 #[true, true, true, false, false, false, false, false, false, false, false, false, false, false, false] (by rfl) (v := ?_) rfl rfl (by kernel_rfl) (by kernel_rfl) (by kernel_rfl) (by kernel_rfl) (fun _ _ _ h => h) (by rfl) ?_ (Till.mk' hS' trivial) ?_
  rotate_left
  · rintro W ⟨hS1, hS2, hS3⟩; go_simp; all_goals with_reducible rfl
  try simp only [List.setIfInBounds_toArray, List.set_cons_succ, List.set_cons_zero]
  refine reg_take 3 66 11 #[true, true, true, true, false, false, false, false, false, false, false, false, false, false, false] (by rfl) (v := ?_) rfl rfl (by kernel_rfl) (by kernel_rfl) (by kernel_rfl) (by kernel_rfl) (fun _ _ _ h => h) (by rfl) ?_ (Till.mk' hS' trivial) ?_
  rotate_left
  · rintro W ⟨hS1, hS2, hS3⟩; go_simp; all_goals with_reducible rfl
  try simp only [List.setIfInBounds_toArray, List.set_cons_succ, List.set_cons_zero]
  refine reg_take 4 67 10 #[true, true, true, true, true, false, false, false, false, false, false, false, false, false, false] (by rfl) (v := ?_) rfl rfl (by kernel_rfl) (by kernel_rfl) (by kernel_rfl) (by kernel_rfl) (fun _ _ _ h => h) (by rfl) ?_ (Till.mk' hS' trivial) ?_
  rotate_left
  · rintro W ⟨hS1, hS2, hS3⟩; go_simp; all_goals with_reducible rfl
  try simp only [List.setIfInBounds_toArray, List.set_cons_succ, List.set_cons_zero]
  refine reg_take 5 68 9 #[true, true, true, true, true, true, false, false, false, false, false, false, false, false, false] (by rfl) (v := ?_) rfl rfl (by kernel_rfl) (by kernel_rfl) (by kernel_rfl) (by kernel_rfl) (fun _ _ _ h => h) (by rfl) ?_ (Till.mk' hS' trivial) ?_
  rotate_left
  · rintro W ⟨hS1, hS2, hS3⟩; go_simp; all_goals with_reducible rfl
  try simp only [List.setIfInBounds_toArray, List.set_cons_succ, List.set_cons_zero]
  refine reg_take 6 69 8 #[true, true, true, true, true, true, true, false, false, false, false, false, false, false, false] (by rfl) (v := ?_) rfl rfl (by kernel_rfl) (by kernel_rfl) (by kernel_rfl) (by kernel_rfl) (fun _ _ _ h => h) (by rfl) ?_ (Till.mk' hS' trivial) ?_
  rotate_left
  · rintro W ⟨hS1, hS2, hS3⟩; go_simp; all_goals with_reducible rfl
  try simp only [List.setIfInBounds_toArray, List.set_cons_succ, List.set_cons_zero]
  refine reg_take 7 70 7 #[true, true, true, true, true, true, true, true, false, false, false, false, false, false, false] (by rfl) (v := ?_) rfl rfl (by kernel_rfl) (by kernel_rfl) (by kernel_rfl) (by kernel_rfl) (fun _ _ _ h => h) (by rfl) ?_ (Till.mk' hS' trivial) ?_
  rotate_left
  · rintro W ⟨hS1, hS2, hS3⟩; go_simp; all_goals with_reducible rfl
  try simp only [List.setIfInBounds_toArray, List.set_cons_succ, List.set_cons_zero]
  refine reg_take 8 71 6 #[true, true, true, true, true, true, true, true, true, false, false, false, false, false, false] (by rfl) (v := ?_) rfl rfl (by kernel_rfl) (by kernel_rfl) (by kernel_rfl) (by kernel_rfl) (fun _ _ _ h => h) (by rfl) ?_ (Till.mk' hS' trivial) ?_
  rotate_left
  · rintro W ⟨hS1, hS2, hS3⟩; go_simp; all_goals with_reducible rfl
  try simp only [List.setIfInBounds_toArray, List.set_cons_succ, List.set_cons_zero]
  refine reg_take 9 72 5 #[true, true, true, true, true, true, true, true, true, true, false, false, false, false, false] (by rfl) (v := ?_) rfl rfl (by kernel_rfl) (by kernel_rfl) (by kernel_rfl) (by kernel_rfl) (fun _ _ _ h => h) (by rfl) ?_ (Till.mk' hS' trivial) ?_
  rotate_left
  · rintro W ⟨hS1, hS2, hS3⟩; have hcs := conv_str (P := Try.prog) (dst := 9) hS3 Try.underlying22 Try.underlying5 Try.underlying9; go_simp; all_goals with_reducible rfl
  try simp only [List.setIfInBounds_toArray, List.set_cons_succ, List.set_cons_zero]
  refine reg_one 10 4 #[true, true, true, true, true, true, true, true, true, true, true, false, false, false, false] (by kernel_rfl) rfl (by rfl) (by kernel_rfl) (fun K hK => ?_)
  go_simp
  refine hK _ _ (Till.mk' hS10 trivial) ?_
  clear hK K
  try simp only [List.setIfInBounds_toArray, List.set_cons_succ, List.set_cons_zero]
  refine reg_one 11 3 #[true, true, true, true, true, true, true, true, true, true, true, true, false, false, false] (by kernel_rfl) rfl (by rfl) (by kernel_rfl) (fun K hK => ?_)
  have hcs := conv_str (P := Try.prog) (dst := 9) hsl9 Try.underlying22 Try.underlying5 Try.underlying9
  go_simp
  refine hK _ _ (Till.mk' hS10 trivial) ?_
  clear hK K
  try simp only [List.setIfInBounds_toArray, List.set_cons_succ, List.set_cons_zero]
  refine reg_take 12 75 2 #[true, true, true, true, true, true, true, true, true, true, true, true, true, false, false] (by rfl) (v := ?_) rfl rfl (by kernel_rfl) (by kernel_rfl) (by kernel_rfl) (by kernel_rfl) (fun _ _ _ h => h) (by rfl) ?_ (Till.mk' hS10 trivial) ?_
  rotate_left
  · rintro W ⟨hS1, hS2, hS3⟩; go_simp; all_goals with_reducible rfl
  try simp only [List.setIfInBounds_toArray, List.set_cons_succ, List.set_cons_zero]
  refine reg_take 13 76 1 #[true, true, true, true, true, true, true, true, true, true, true, true, true, true, false] (by rfl) (v := ?_) rfl rfl (by kernel_rfl) (by kernel_rfl) (by kernel_rfl) (by kernel_rfl) (fun _ _ _ h => h) (by rfl) ?_ (Till.mk' hS10 trivial) ?_
  rotate_left
  · rintro W ⟨hS1, hS2, hS3⟩; go_simp; all_goals with_reducible rfl
  try simp only [List.setIfInBounds_toArray, List.set_cons_succ, List.set_cons_zero]
  refine reg_take 14 2 0 #[true, true, true, true, true, true, true, true, true, true, true, true, true, true, true] (by rfl) (v := ?_) rfl rfl (by kernel_rfl) (by kernel_rfl) (by kernel_rfl) (by kernel_rfl) (fun _ _ _ h => h) (by rfl) ?_ (Till.mk' hS10 trivial) ?_
  rotate_left
  · rintro W ⟨hS1, hS2, hS3⟩; go_simp; all_goals with_reducible rfl
  try simp only [List.setIfInBounds_toArray, List.set_cons_succ, List.set_cons_zero]
  refine reg_done (by kernel_rfl) ?_ _
  go_wp2_with fail
  go_ret
  exact ⟨rfl, fin⟩
end Go.Proofs.Ytemhlnjnbccpgaa
