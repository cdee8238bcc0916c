/- The power comes again: the pages are what was synced, and of the other Writes what the picks say. -/
import Derived.Test.YtdhbaepmbgoobaaDiskS
import Derived.Deep.WholeRow
namespace Go.Proofs.Ytdhbaepmbgoobaa
open Go.RowKit
set_option linter.unusedVariables false
set_option maxRecDepth 10000
set_option linter.unusedSimpArgs false
set_option linter.unnecessarySimpa false

/-- Which way a Write goes. -/
def pick4 (l : List Int) (i : Nat) : Int := (l.getD i 0) % 4
/-- What a Write leaves of what was synced. -/
def half1 (k : Int) (s : List UInt8) (x : Nat × List UInt8) : List UInt8 := if k = 1 ∨ k = 3 then spl s (x.1 * 64) (x.2.take 32) else s
def half2 (k : Int) (s : List UInt8) (x : Nat × List UInt8) : List UInt8 := if k = 2 ∨ k = 3 then spl s (x.1 * 64 + 32) (x.2.drop 32) else s
def crash1 (k : Int) (s : List UInt8) (x : Nat × List UInt8) : List UInt8 := half2 k (half1 k s x) x
def crashS (l : List Int) : Nat → List (Nat × List UInt8) → List UInt8 → List UInt8
  | _, [], s => s
  | i, x :: ws, s => crashS l (i + 1) ws (crash1 (pick4 l i) s x)
theorem crashS_snoc (l : List Int) (x : Nat × List UInt8) : ∀ (ws : List (Nat × List UInt8)) (i : Nat) (s : List UInt8), crashS l i (ws ++ [x]) s = crash1 (pick4 l (i + ws.length)) (crashS l i ws s) x
  | [], i, s => rfl
  | y :: ws, i, s => by
    rw [List.cons_append, crashS, crashS_snoc l x ws (i + 1), crashS, List.length_cons]
    congr 2
    omega
theorem half1_length (k : Int) (s : List UInt8) (x : Nat × List UInt8) : (half1 k s x).length = s.length := by unfold half1; split <;> simp [spl_length]
theorem half2_length (k : Int) (s : List UInt8) (x : Nat × List UInt8) : (half2 k s x).length = s.length := by unfold half2; split <;> simp [spl_length]
theorem tmod4 (z : Int) : (z.tmod 4 + 4).tmod 4 = z % 4 ∧ -3 ≤ z.tmod 4 ∧ z.tmod 4 ≤ 3 := by
  have h1 := Int.tmod_eq_emod (a := z) (b := 4)
  have h2 := Int.tmod_eq_emod (a := z.tmod 4 + 4) (b := 4)
  rw [h2]
  split at h1 <;> split <;> simp_all <;> omega
/-- The Writes between are of pages that are there. -/
def DS.fine (st : DS) (p : Nat) : Prop := ∀ x ∈ st.writes, x.1 < p ∧ x.2.length = 64
def DS.upTo (st : DS) (l : List Int) (k : Nat) : DS := ⟨st.left, st.dead, crashS l 0 (st.writes.take k) st.synced, st.now, st.writes⟩
def DS.crash (st : DS) (l : List Int) : DS := ⟨0, false, crashS l 0 st.writes st.synced, crashS l 0 st.writes st.synced, []⟩

theorem flatW_get : ∀ (ws : List (Nat × List UInt8)) (k : Nat) (hk : k < ws.length), (∀ x ∈ ws, x.2.length = 64) → ∀ j v, (Value.int .i64 ws[k].1 :: bvs ws[k].2)[j]? = some v → (flatW ws)[k * 65 + j]? = some v
  | [], k, hk, _, _, _, _ => by simp at hk
  | x :: ws, k, hk, h, j, v, hv => by
    have hx : (Value.int .i64 x.1 :: bvs x.2).length = 65 := by rw [List.length_cons, bvs_length, h x (by simp)]
    rw [flatW, List.flatMap_cons]
    cases k with
    | zero =>
      rw [Nat.zero_mul, Nat.zero_add, List.getElem?_append_left (by
        have := (List.getElem?_eq_some_iff.1 hv).1
        simpa using this)]
      exact hv
    | succ k =>
      rw [List.getElem?_append_right (by omega), hx, show (k + 1) * 65 + j - 65 = k * 65 + j by omega]
      exact flatW_get ws k (by simpa using hk) (fun y hy => h y (by simp [hy])) j v hv
theorem there_new (w : World) (cs : Array Value) (t : TypeId) (n : Nat) (h : cs.size = n) : (w.alloc (.cells cs t)).there w.heap.size 0 n := by
  have := (Blk.new w cs.toList t).there 0 n (by simp [h])
  simpa using this
theorem half_did {w w' : World} {D : DL} {p B k : Nat} {bs : List UInt8} {st : DS} (d : DiskIs w B D p st) (h : Blk w' D.s (spl (bvs st.synced) k (bvs bs)) 99) (t : Turns [D.s] w.drew w') : DiskIs w' B D p ⟨st.left, st.dead, spl st.synced k bs, st.now, st.writes⟩ := by
  have t' : Turns [D.s] w w' := ⟨t.os, t.tape, t.output, t.size, t.block⟩
  have n1 : D.g ∉ [D.s] := by simpa using d.ap1.1
  have n2 : D.m ∉ [D.s] := by simpa using Ne.symm d.ap1.2.2
  have e1 : spl (bvs st.synced) k (bvs bs) = bvs (spl st.synced k bs) := by unfold bvs; rw [← spl_map]
  rw [e1] at h
  refine ⟨d.head.turns t' n1, h, d.now.turns t' n2, ?_, by rw [spl_length]; exact d.lenS, d.lenN, d.left0, d.pages, d.ap1, d.ap2, d.low⟩
  exact own_turns d.own t' (by intro g hg hm; simp at hm; subst hm; exact d.ap2.2.1 hg)
theorem T65i : (Try.prog.info? 101).map (·.size) = some 65 := by kernel_rfl
/-- A copy of one write, in a variable of its own. -/
theorem own_write (W : World) (Z : Array Value) (hZ : Z.size = 65) (cs : List Value) (hc : cs.length = 65) :
    Blk ((W.alloc (.cells Z 101)).setCells W.heap.size 0 cs) W.heap.size cs 101 ∧ Turns [] W ((W.alloc (.cells Z 101)).setCells W.heap.size 0 cs) := by
  have h1 := (Blk.new W Z.toList 101).setCells cs 0
  rw [spl_whole _ _ (by simp [hZ, hc])] at h1
  exact ⟨by simpa using h1, by
    have := Turns.setCells (L := []) (a := W) (b := W.heap.size) (.inr (Nat.le_refl _)) cs 0 ((Turns.refl _ _).alloc (.cells Z 101))
    exact this⟩

theorem upTo_succ (st : DS) (l : List Int) (k : Nat) (n : Nat) (pg : List UInt8) (r : Int) (hk : k < st.writes.length) (hn : n = st.writes[k].1) (hpg : pg = st.writes[k].2) (hr : pick4 l k = r) :
    st.upTo l (k + 1) = ⟨st.left, st.dead, crash1 r (st.upTo l k).synced (n, pg), st.now, st.writes⟩ := by
  have hx : st.writes[k] = (n, pg) := by rw [hn, hpg]
  unfold DS.upTo
  rw [List.take_succ_eq_append_getElem hk, crashS_snoc, List.length_take, Nat.min_eq_left (by omega), Nat.zero_add, hx, hr]
theorem cut_1 (v : Value) (pg : List UInt8) : (List.drop 1 (v :: bvs pg)).take (32 * 1) = bvs (pg.take 32) := by simp [bvs, List.map_take]
theorem cut_2 (v : Value) (pg : List UInt8) (h : pg.length = 64) : (List.drop 33 (v :: bvs pg)).take (32 * 1) = bvs (pg.drop 32) := by
  rw [List.drop_succ_cons, List.take_of_length_le (by rw [List.length_drop, bvs_length]; omega)]
  simp [bvs, List.map_drop]
theorem now_did {w w' : World} {D : DL} {p B : Nat} {st : DS} (d : DiskIs w B D p st) (h : Blk w' D.m (bvs st.synced) 99) (t : Turns [D.m] w.drew w') : DiskDid w B D p ⟨st.left, st.dead, st.synced, st.synced, st.writes⟩ w' D := by
  have t' : Turns [D.m] w w' := ⟨t.os, t.tape, t.output, t.size, t.block⟩
  have n1 : D.g ∉ [D.m] := by simpa using d.ap1.2.1
  have n2 : D.s ∉ [D.m] := by simpa using d.ap1.2.2
  refine ⟨⟨d.head.turns t' n1, d.syn.turns t' n2, h, ?_, d.lenS, d.lenS, d.left0, d.pages, d.ap1, d.ap2, d.low⟩, ⟨rfl, rfl, rfl⟩, t'.mono (fun x hx => .inl (by simp at hx; subst hx; simp [DL.all])), fun x hx => .inl hx⟩
  exact own_turns d.own t' (by intro g hg hm; simp at hm; subst hm; exact d.ap2.2.2 hg)
theorem copied_now {w' : World} {D : DL} {p B : Nat} {w : World} {st : DS} (h : Blk w' D.m (spl (bvs st.now) 0 (List.take (min p p * 64) (List.take (p * 64) (List.drop 0 (bvs st.synced))))) 99) (d : DiskIs w B D p st) : Blk w' D.m (bvs st.synced) 99 := by
  have e : List.take (min p p * 64) (List.take (p * 64) (List.drop 0 (bvs st.synced))) = bvs st.synced := by
    rw [List.drop_zero, Nat.min_self, List.take_take, Nat.min_self, List.take_of_length_le (by rw [bvs_length, d.lenS]; omega)]
  rw [e, spl_whole _ _ (by rw [bvs_length, bvs_length, d.lenS, d.lenN])] at h
  exact h

set_option maxRecDepth 100000 in
set_option maxHeartbeats 2000000 in
theorem Crash_any (w : World) (B : Nat) (D : DL) (p : Nat) (st : DS) (A : Option Addr) (c : Nat) (l : List Int) (h : DiskIs w B D p st) (hf : st.fine p) (hwl : st.writes.length ≤ 1000000)
    (hs : Sl w w.heap.size 1 (.slice A l.length c) l.length (l.map (Value.int .i64))) (hi : ∀ z ∈ l, -9223372036854775808 ≤ z ∧ z ≤ 9223372036854775807) (hA : l ≠ [] → ∀ x ∈ D.all, (Value.slice A l.length c).ownBlock ≠ some x) :
    Calls Try.prog 23 #[.pointer (some ⟨D.g, 0, none⟩), .slice A l.length c] w fun e w' => e = .returned (.tuple #[]) ∧ DiskDid w B D p (st.crash l) w' ⟨D.g, D.s, D.m, .slice none 0 0⟩ := by
  obtain ⟨Av, cv, hDv⟩ := own_form h.own
  have c4 : w.cell? ⟨D.g, 4, none⟩ = some (.slice Av st.writes.length cv) := by rw [← hDv]; exact h.head.cell 4
  have hlen : st.writes.length ≤ 9223372036854775807 := by omega
  go_enter Try.func23, Try.ntmps23
  go_wp2_with fail
  go_loopw [12] (fun i wr => ∃ k : Nat, k ≤ st.writes.length ∧ i = .int .i64 k ∧ DiskIs wr B D p (st.upTo l k) ∧ Turns D.all w wr) (fun i _ => st.writes.length - (intOf i).toNat)
  case atStart => exact ⟨0, by omega, rfl, h, Turns.refl _ _⟩
  case round =>
    clear c4
    obtain ⟨k, hk, rfl, hd, ht⟩ := hrel
    by_cases hlt : k < st.writes.length
    · have hx := hf _ (List.getElem_mem hlt)
      have hrow : ∀ j v, (Value.int .i64 st.writes[k].1 :: bvs st.writes[k].2)[j]? = some v → (flatW st.writes)[k * 65 + j]? = some v := flatW_get st.writes k hlt (fun x hx => (hf x hx).2)
      have hown := hd.own
      rcases hown.2 with ⟨hn, h0⟩ | ⟨gv, cap, cur, hv, hbg, hg, hnc, hcm, hcs, htake⟩
      · exact absurd h0 (by show ¬ st.writes.length = 0; omega)
      have hv' : D.v = .slice (some ⟨gv, 0, none⟩) st.writes.length cap := hv
      rw [hDv] at hv'
      injection hv' with e1 e2 e3
      subst e1 e3
      clear e2
      have hrange : wr.rangeAt gv (k * 65) (Value.int .i64 st.writes[k].1 :: bvs st.writes[k].2) := by
        intro j v hj
        have := hown.cells (g := gv) (by rw [hv]; rfl) (k * 65 + j) v (hrow j v hj)
        rwa [Addr.add_mid, Nat.zero_add] at this
      obtain ⟨n, hn⟩ : ∃ n, n = st.writes[k].1 := ⟨_, rfl⟩
      obtain ⟨pg, hpg⟩ : ∃ pg, pg = st.writes[k].2 := ⟨_, rfl⟩
      rw [← hn, ← hpg] at hrange hx
      have hn' := Lib.hid hn
      have hpg' := Lib.hid hpg
      clear hn hpg hrow hg hnc hcm hcs htake hown hv cur hbg
      have hdd := Lib.hid hd
      have hDv' := Lib.hid hDv
      clear hDv
      have hpl := hx.2
      have h65 : (Value.int .i64 n :: bvs pg).length = 65 := by rw [List.length_cons, bvs_length, hpl]
      have hsz : (Try.prog.info? 101).map (·.size) = some (Value.int .i64 n :: bvs pg).length := by rw [h65]; exact T65i
      have h1c : ((Value.int .i64 n :: bvs pg).toArray).all (·.oneCell') = true := all_oneCell_toArray (by intro u hu; rcases List.mem_cons.1 hu with rfl | hu; rfl; exact bvs_one _ u hu)
      obtain ⟨Z, hZ, hz63⟩ : ∃ Z : Array Value, Z.size = 65 ∧ ∀ w, (zeroValue 101).run Try.prog w = .ok (.agg Z) w :=
        ⟨#[.int .i64 0] ++ Array.replicate 64 (.int .u8 0), by simp, (zero_of_info (P := Try.prog) (n := 65) (by kernel_rfl)).1⟩
      by_cases hil : k < l.length
      · have hbd := hi _ (List.getElem_mem hil)
        have hp4 : pick4 l k = l[k] % 4 := by unfold pick4; rw [List.getD_eq_getElem?_getD, List.getElem?_eq_getElem hil]; rfl
        have hsr := ht.slice hs (Nat.le_refl _) (hA (by intro e; rw [e] at hil; simp at hil))
        obtain ⟨_, _, _, ee, _, _, _, hrd⟩ := hsr
        injection ee with ee1 ee2 ee3
        subst ee1
        clear ee2 ee3
        obtain ⟨bl, ol, rfl, hbl, hc⟩ := Rd.at_ hrd (k := k) (by simpa using hil)
        rw [List.getElem_map] at hc
        generalize l[k] = z at hbd hp4 hc
        have hcell : ∀ Z cs, ((wr.alloc (.cells Z 101)).setCells wr.heap.size 0 cs).cell? ⟨bl, ol + k, none⟩ = some (.int .i64 z) := fun Z cs => by
          have tz := Turns.setCells (L := []) (a := wr) (b := wr.heap.size) (.inr (Nat.le_refl _)) cs 0 ((Turns.refl _ _).alloc (.cells Z 101))
          have hlt' : bl < wr.heap.size := Nat.lt_of_lt_of_le hbl ht.size
          rw [World.cell?_of_block (w := wr) (tz.block bl hlt' (by simp))]
          exact hc
        have hz : z % 4 = 0 ∨ z % 4 = 1 ∨ z % 4 = 2 ∨ z % 4 = 3 := by omega
        obtain ⟨hz', hz1, hz2⟩ := tmod4 z
        have wz : IntKind.i64.wrap (z.tmod 4 + 4) = z.tmod 4 + 4 := IntWalk.i64_in _ (by omega)
        rw [← hz'] at hz hp4
        have hcut1 := cut_1 (Value.int .i64 n) pg
        have hcut2 := cut_2 (Value.int .i64 n) pg hpl
        have hmin1 : List.take (min 32 32 * 1) (bvs (pg.take 32)) = bvs (pg.take 32) := List.take_of_length_le (by rw [bvs_length, List.length_take]; omega)
        have hmin2 : List.take (min 32 32 * 1) (bvs (pg.drop 32)) = bvs (pg.drop 32) := List.take_of_length_le (by rw [bvs_length, List.length_drop]; omega)
        clear hbd hrd hc
        rcases hz with hz | hz | hz | hz
        · rw [hz] at hp4
          clear hz' hz1 hz2
          have UP := Lib.hid (show st.upTo l (k + 1) = ⟨st.left, st.dead, (st.upTo l k).synced, st.now, st.writes⟩ from by
            rw [upTo_succ st l k n pg 0 hlt hn'.out hpg'.out hp4]
            simp [crash1, half1, half2])
          clear hp4
          have b1 : (bits BinOp.and IntKind.i64 0 1 != 0) = false := by rfl
          have b2 : (bits BinOp.and IntKind.i64 0 2 != 0) = false := by rfl
          obtain ⟨hq0, tq⟩ := own_write wr Z hZ _ h65
          have d0 := hdd.out.turns tq (by simp)
          have tt0 := ht.trans (tq.mono (L' := D.all) (by simp)) (fun x hx => .inl hx)
          have hqs : ¬ wr.heap.size = D.s := fun e => by have := hdd.out.syn.lt; omega
          go_wp2_with (first
            | (refine wpList_load_mid rfl 101 (.tmp 15) rfl gv (k * 65) rfl _ _ hrange Try.underlying101 rfl hsz ?_)
            | (refine wpList_store_mid rfl 101 (.tmp 5) (.tmp 16) rfl wr.heap.size 0 (Value.int .i64 n :: bvs pg).toArray rfl rfl (there_new _ Z _ _ (by simp [hpl, bvs_length, hZ])) (by simpa using hsz) h1c ?_))
          generalize (wr.alloc (Obj.cells Z 101)).setCells wr.heap.size 0 (Value.int IntKind.i64 ↑n :: bvs pg) = w1 at *
          generalize wr.heap.size = q at *
          clear hz63 hZ Z tq hd hrange b1 b2
          go_roundw
          case rel => exact ⟨k + 1, by omega, by go_num, by rw [UP.out]; exact d0, tt0⟩
          case measure => (simp [intOf] <;> omega)
        · rw [hz] at hp4
          clear hz' hz1 hz2
          have UP := Lib.hid (show st.upTo l (k + 1) = ⟨st.left, st.dead, spl (st.upTo l k).synced (n * 64) (pg.take 32), st.now, st.writes⟩ from by
            rw [upTo_succ st l k n pg 1 hlt hn'.out hpg'.out hp4]
            simp [crash1, half1, half2])
          clear hp4
          have b1 : (bits BinOp.and IntKind.i64 1 1 != 0) = true := by rfl
          have b2 : (bits BinOp.and IntKind.i64 1 2 != 0) = false := by rfl
          obtain ⟨hq0, tq⟩ := own_write wr Z hZ _ h65
          have d0 := hdd.out.turns tq (by simp)
          have tt0 := ht.trans (tq.mono (L' := D.all) (by simp)) (fun x hx => .inl hx)
          have hqs : ¬ wr.heap.size = D.s := fun e => by have := hdd.out.syn.lt; omega
          go_wp2_with (first
            | (refine wpList_load_mid rfl 101 (.tmp 15) rfl gv (k * 65) rfl _ _ hrange Try.underlying101 rfl hsz ?_)
            | (refine wpList_store_mid rfl 101 (.tmp 5) (.tmp 16) rfl wr.heap.size 0 (Value.int .i64 n :: bvs pg).toArray rfl rfl (there_new _ Z _ _ (by simp [hpl, bvs_length, hZ])) (by simpa using hsz) h1c ?_))
          generalize (wr.alloc (Obj.cells Z 101)).setCells wr.heap.size 0 (Value.int IntKind.i64 ↑n :: bvs pg) = w1 at *
          generalize wr.heap.size = q at *
          clear hz63 hZ Z tq hd hrange b1 b2
          refine reg_begin (fun W => W.cell? ⟨D.g, 2, none⟩ = some (.slice (some ⟨D.s, 0, none⟩) p p) ∧ W.cell? ⟨q, 0, none⟩ = some (.int .i64 n)) (fun _ => True) 11 11 #[false, false, false, false, false, false, false, false, false, false, false] (by kernel_rfl) (by kernel_rfl) (by kernel_rfl) ?_
          refine reg_take 0 31 10 #[true, false, false, false, false, false, false, false, false, false, false] (by rfl) (v := ?_) rfl rfl (by kernel_rfl) (by kernel_rfl) (by kernel_rfl) (by kernel_rfl) (fun _ _ _ h => h) (by rfl) ?_ (Till.mk' ⟨d0.head.cell 2, hq0.cell 0⟩ trivial) ?_
          rotate_left
          · rintro W ⟨hS1, hS2⟩; go_simp; all_goals with_reducible rfl
          try simp only [List.setIfInBounds_toArray, List.set_cons_succ, List.set_cons_zero]
          refine reg_take 1 32 9 #[true, true, false, false, false, false, false, false, false, false, false] (by rfl) (v := ?_) rfl rfl (by kernel_rfl) (by kernel_rfl) (by kernel_rfl) (by kernel_rfl) (fun _ _ _ h => h) (by rfl) ?_ (Till.mk' ⟨d0.head.cell 2, hq0.cell 0⟩ trivial) ?_
          rotate_left
          · rintro W ⟨hS1, hS2⟩; go_simp; all_goals with_reducible rfl
          try simp only [List.setIfInBounds_toArray, List.set_cons_succ, List.set_cons_zero]
          refine reg_take 2 33 8 #[true, true, true, false, false, false, false, false, false, false, false] (by rfl) (v := ?_) rfl rfl (by kernel_rfl) (by kernel_rfl) (by kernel_rfl) (by kernel_rfl) (fun _ _ _ h => h) (by rfl) ?_ (Till.mk' ⟨d0.head.cell 2, hq0.cell 0⟩ trivial) ?_
          rotate_left
          · rintro W ⟨hS1, hS2⟩; go_simp; all_goals with_reducible rfl
          try simp only [List.setIfInBounds_toArray, List.set_cons_succ, List.set_cons_zero]
          refine reg_take 3 34 7 #[true, true, true, true, false, false, false, false, false, false, false] (by rfl) (v := ?_) rfl rfl (by kernel_rfl) (by kernel_rfl) (by kernel_rfl) (by kernel_rfl) (fun _ _ _ h => h) (by rfl) ?_ (Till.mk' ⟨d0.head.cell 2, hq0.cell 0⟩ trivial) ?_
          rotate_left
          · rintro W ⟨hS1, hS2⟩; go_simp; all_goals with_reducible rfl
          try simp only [List.setIfInBounds_toArray, List.set_cons_succ, List.set_cons_zero]
          refine reg_take 4 35 6 #[true, true, true, true, true, false, false, false, false, false, false] (by rfl) (v := ?_) rfl rfl (by kernel_rfl) (by kernel_rfl) (by kernel_rfl) (by kernel_rfl) (fun _ _ _ h => h) (by rfl) ?_ (Till.mk' ⟨d0.head.cell 2, hq0.cell 0⟩ trivial) ?_
          rotate_left
          · rintro W ⟨hS1, hS2⟩; go_simp; all_goals with_reducible rfl
          try simp only [List.setIfInBounds_toArray, List.set_cons_succ, List.set_cons_zero]
          refine reg_take 5 36 5 #[true, true, true, true, true, true, false, false, false, false, false] (by rfl) (v := ?_) rfl rfl (by kernel_rfl) (by kernel_rfl) (by kernel_rfl) (by kernel_rfl) (fun _ _ _ h => h) (by rfl) ?_ (Till.mk' ⟨d0.head.cell 2, hq0.cell 0⟩ trivial) ?_
          rotate_left
          · rintro W ⟨hS1, hS2⟩; go_simp; all_goals with_reducible rfl
          try simp only [List.setIfInBounds_toArray, List.set_cons_succ, List.set_cons_zero]
          refine reg_take 6 37 4 #[true, true, true, true, true, true, true, false, false, false, false] (by rfl) (v := ?_) rfl rfl (by kernel_rfl) (by kernel_rfl) (by kernel_rfl) (by kernel_rfl) (fun _ _ _ h => h) (by rfl) ?_ (Till.mk' ⟨d0.head.cell 2, hq0.cell 0⟩ trivial) ?_
          rotate_left
          · rintro W ⟨hS1, hS2⟩; go_simp; all_goals with_reducible rfl
          try simp only [List.setIfInBounds_toArray, List.set_cons_succ, List.set_cons_zero]
          refine reg_take 7 38 3 #[true, true, true, true, true, true, true, true, false, false, false] (by rfl) (v := ?_) rfl rfl (by kernel_rfl) (by kernel_rfl) (by kernel_rfl) (by kernel_rfl) (fun _ _ _ h => h) (by rfl) ?_ (Till.mk' ⟨d0.head.cell 2, hq0.cell 0⟩ trivial) ?_
          rotate_left
          · rintro W ⟨hS1, hS2⟩; go_simp; all_goals with_reducible rfl
          try simp only [List.setIfInBounds_toArray, List.set_cons_succ, List.set_cons_zero]
          refine reg_take 8 39 2 #[true, true, true, true, true, true, true, true, true, false, false] (by rfl) (v := ?_) rfl rfl (by kernel_rfl) (by kernel_rfl) (by kernel_rfl) (by kernel_rfl) (fun _ _ _ h => h) (by rfl) ?_ (Till.mk' ⟨d0.head.cell 2, hq0.cell 0⟩ trivial) ?_
          rotate_left
          · rintro W ⟨hS1, hS2⟩; go_simp; all_goals with_reducible rfl
          try simp only [List.setIfInBounds_toArray, List.set_cons_succ, List.set_cons_zero]
          refine reg_take 9 40 1 #[true, true, true, true, true, true, true, true, true, true, false] (by rfl) (v := ?_) rfl rfl (by kernel_rfl) (by kernel_rfl) (by kernel_rfl) (by kernel_rfl) (fun _ _ _ h => h) (by rfl) ?_ (Till.mk' ⟨d0.head.cell 2, hq0.cell 0⟩ trivial) ?_
          rotate_left
          · rintro W ⟨hS1, hS2⟩; go_simp; all_goals with_reducible rfl
          try simp only [List.setIfInBounds_toArray, List.set_cons_succ, List.set_cons_zero]
          refine reg_one 10 0 #[true, true, true, true, true, true, true, true, true, true, true] (by kernel_rfl) rfl (by rfl) (by kernel_rfl) (fun K hK => ?_)
          have hrun := run_copy_blk (s := 34) (dLen := 32) (dCap := 64) (o := n * 64) T8 3 d0.syn.drew (hq0.drew.sl 1 32 64 1 (by simp [hpl, bvs_length]) (by omega) (by simp [maxLen])) (by intro u hu; rw [hcut1] at hu; exact bvs_one _ u hu) (by rw [bvs_length, d0.lenS]; omega)
          rw [hcut1] at hrun
          refine wp_copy_run (.tmp 38) (.tmp 40) rfl hrun (by rfl) (by rfl) ?_
          clear hrun
          rintro v1 w1 ⟨rfl, hb1, t1⟩
          rw [hmin1] at hb1
          have d1 := half_did d0 hb1 t1
          have hq1 := hq0.drew.turns t1 (by simp; exact hqs)
          have tt1 := tt0.drew.trans (t1.mono (L' := D.all) (fun x hx => .inl (by simp at hx; subst hx; simp [DL.all]))) (fun x hx => .inl hx)
          clear hb1 t1
          refine hK _ _ (Till.mk' ⟨d1.head.cell 2, hq1.cell 0⟩ trivial) ?_
          clear hK K
          try simp only [List.setIfInBounds_toArray, List.set_cons_succ, List.set_cons_zero]
          refine reg_done (by kernel_rfl) ?_ _
          go_wp2_with fail
          go_roundw
          case rel => exact ⟨k + 1, by omega, by go_num, by rw [UP.out]; exact d1, tt1⟩
          case measure => (simp [intOf] <;> omega)
        · rw [hz] at hp4
          clear hz' hz1 hz2
          have UP := Lib.hid (show st.upTo l (k + 1) = ⟨st.left, st.dead, spl (st.upTo l k).synced (n * 64 + 32) (pg.drop 32), st.now, st.writes⟩ from by
            rw [upTo_succ st l k n pg 2 hlt hn'.out hpg'.out hp4]
            simp [crash1, half1, half2])
          clear hp4
          have b1 : (bits BinOp.and IntKind.i64 2 1 != 0) = false := by rfl
          have b2 : (bits BinOp.and IntKind.i64 2 2 != 0) = true := by rfl
          obtain ⟨hq0, tq⟩ := own_write wr Z hZ _ h65
          have d0 := hdd.out.turns tq (by simp)
          have tt0 := ht.trans (tq.mono (L' := D.all) (by simp)) (fun x hx => .inl hx)
          have hqs : ¬ wr.heap.size = D.s := fun e => by have := hdd.out.syn.lt; omega
          go_wp2_with (first
            | (refine wpList_load_mid rfl 101 (.tmp 15) rfl gv (k * 65) rfl _ _ hrange Try.underlying101 rfl hsz ?_)
            | (refine wpList_store_mid rfl 101 (.tmp 5) (.tmp 16) rfl wr.heap.size 0 (Value.int .i64 n :: bvs pg).toArray rfl rfl (there_new _ Z _ _ (by simp [hpl, bvs_length, hZ])) (by simpa using hsz) h1c ?_))
          generalize (wr.alloc (Obj.cells Z 101)).setCells wr.heap.size 0 (Value.int IntKind.i64 ↑n :: bvs pg) = w1 at *
          generalize wr.heap.size = q at *
          clear hz63 hZ Z tq hd hrange b1 b2
          refine reg_begin (fun W => W.cell? ⟨D.g, 2, none⟩ = some (.slice (some ⟨D.s, 0, none⟩) p p) ∧ W.cell? ⟨q, 0, none⟩ = some (.int .i64 n)) (fun _ => True) 11 11 #[false, false, false, false, false, false, false, false, false, false, false] (by kernel_rfl) (by kernel_rfl) (by kernel_rfl) ?_
          refine reg_take 0 45 10 #[true, false, false, false, false, false, false, false, false, false, false] (by rfl) (v := ?_) rfl rfl (by kernel_rfl) (by kernel_rfl) (by kernel_rfl) (by kernel_rfl) (fun _ _ _ h => h) (by rfl) ?_ (Till.mk' ⟨d0.head.cell 2, hq0.cell 0⟩ trivial) ?_
          rotate_left
          · rintro W ⟨hS1, hS2⟩; go_simp; all_goals with_reducible rfl
          try simp only [List.setIfInBounds_toArray, List.set_cons_succ, List.set_cons_zero]
          refine reg_take 1 46 9 #[true, true, false, false, false, false, false, false, false, false, false] (by rfl) (v := ?_) rfl rfl (by kernel_rfl) (by kernel_rfl) (by kernel_rfl) (by kernel_rfl) (fun _ _ _ h => h) (by rfl) ?_ (Till.mk' ⟨d0.head.cell 2, hq0.cell 0⟩ trivial) ?_
          rotate_left
          · rintro W ⟨hS1, hS2⟩; go_simp; all_goals with_reducible rfl
          try simp only [List.setIfInBounds_toArray, List.set_cons_succ, List.set_cons_zero]
          refine reg_take 2 47 8 #[true, true, true, false, false, false, false, false, false, false, false] (by rfl) (v := ?_) rfl rfl (by kernel_rfl) (by kernel_rfl) (by kernel_rfl) (by kernel_rfl) (fun _ _ _ h => h) (by rfl) ?_ (Till.mk' ⟨d0.head.cell 2, hq0.cell 0⟩ trivial) ?_
          rotate_left
          · rintro W ⟨hS1, hS2⟩; go_simp; all_goals with_reducible rfl
          try simp only [List.setIfInBounds_toArray, List.set_cons_succ, List.set_cons_zero]
          refine reg_take 3 48 7 #[true, true, true, true, false, false, false, false, false, false, false] (by rfl) (v := ?_) rfl rfl (by kernel_rfl) (by kernel_rfl) (by kernel_rfl) (by kernel_rfl) (fun _ _ _ h => h) (by rfl) ?_ (Till.mk' ⟨d0.head.cell 2, hq0.cell 0⟩ trivial) ?_
          rotate_left
          · rintro W ⟨hS1, hS2⟩; go_simp; all_goals with_reducible rfl
          try simp only [List.setIfInBounds_toArray, List.set_cons_succ, List.set_cons_zero]
          refine reg_take 4 49 6 #[true, true, true, true, true, false, false, false, false, false, false] (by rfl) (v := ?_) rfl rfl (by kernel_rfl) (by kernel_rfl) (by kernel_rfl) (by kernel_rfl) (fun _ _ _ h => h) (by rfl) ?_ (Till.mk' ⟨d0.head.cell 2, hq0.cell 0⟩ trivial) ?_
          rotate_left
          · rintro W ⟨hS1, hS2⟩; go_simp; all_goals with_reducible rfl
          try simp only [List.setIfInBounds_toArray, List.set_cons_succ, List.set_cons_zero]
          refine reg_take 5 50 5 #[true, true, true, true, true, true, false, false, false, false, false] (by rfl) (v := ?_) rfl rfl (by kernel_rfl) (by kernel_rfl) (by kernel_rfl) (by kernel_rfl) (fun _ _ _ h => h) (by rfl) ?_ (Till.mk' ⟨d0.head.cell 2, hq0.cell 0⟩ trivial) ?_
          rotate_left
          · rintro W ⟨hS1, hS2⟩; go_simp; all_goals with_reducible rfl
          try simp only [List.setIfInBounds_toArray, List.set_cons_succ, List.set_cons_zero]
          refine reg_take 6 51 4 #[true, true, true, true, true, true, true, false, false, false, false] (by rfl) (v := ?_) rfl rfl (by kernel_rfl) (by kernel_rfl) (by kernel_rfl) (by kernel_rfl) (fun _ _ _ h => h) (by rfl) ?_ (Till.mk' ⟨d0.head.cell 2, hq0.cell 0⟩ trivial) ?_
          rotate_left
          · rintro W ⟨hS1, hS2⟩; go_simp; all_goals with_reducible rfl
          try simp only [List.setIfInBounds_toArray, List.set_cons_succ, List.set_cons_zero]
          refine reg_take 7 52 3 #[true, true, true, true, true, true, true, true, false, false, false] (by rfl) (v := ?_) rfl rfl (by kernel_rfl) (by kernel_rfl) (by kernel_rfl) (by kernel_rfl) (fun _ _ _ h => h) (by rfl) ?_ (Till.mk' ⟨d0.head.cell 2, hq0.cell 0⟩ trivial) ?_
          rotate_left
          · rintro W ⟨hS1, hS2⟩; go_simp; all_goals with_reducible rfl
          try simp only [List.setIfInBounds_toArray, List.set_cons_succ, List.set_cons_zero]
          refine reg_take 8 53 2 #[true, true, true, true, true, true, true, true, true, false, false] (by rfl) (v := ?_) rfl rfl (by kernel_rfl) (by kernel_rfl) (by kernel_rfl) (by kernel_rfl) (fun _ _ _ h => h) (by rfl) ?_ (Till.mk' ⟨d0.head.cell 2, hq0.cell 0⟩ trivial) ?_
          rotate_left
          · rintro W ⟨hS1, hS2⟩; go_simp; all_goals with_reducible rfl
          try simp only [List.setIfInBounds_toArray, List.set_cons_succ, List.set_cons_zero]
          refine reg_take 9 54 1 #[true, true, true, true, true, true, true, true, true, true, false] (by rfl) (v := ?_) rfl rfl (by kernel_rfl) (by kernel_rfl) (by kernel_rfl) (by kernel_rfl) (fun _ _ _ h => h) (by rfl) ?_ (Till.mk' ⟨d0.head.cell 2, hq0.cell 0⟩ trivial) ?_
          rotate_left
          · rintro W ⟨hS1, hS2⟩; go_simp; all_goals with_reducible rfl
          try simp only [List.setIfInBounds_toArray, List.set_cons_succ, List.set_cons_zero]
          refine reg_one 10 0 #[true, true, true, true, true, true, true, true, true, true, true] (by kernel_rfl) rfl (by rfl) (by kernel_rfl) (fun K hK => ?_)
          have hrun := run_copy_blk (s := 34) (dLen := 32) (dCap := 32) (o := n * 64 + 32) T8 3 d0.syn.drew (hq0.drew.sl 33 32 32 1 (by simp [hpl, bvs_length]) (by omega) (by simp [maxLen])) (by intro u hu; rw [hcut2] at hu; exact bvs_one _ u hu) (by rw [bvs_length, d0.lenS]; omega)
          rw [hcut2] at hrun
          refine wp_copy_run (.tmp 52) (.tmp 54) rfl hrun (by rfl) (by rfl) ?_
          clear hrun
          rintro v1 w1 ⟨rfl, hb1, t1⟩
          rw [hmin2] at hb1
          have d1 := half_did d0 hb1 t1
          have hq1 := hq0.drew.turns t1 (by simp; exact hqs)
          have tt1 := tt0.drew.trans (t1.mono (L' := D.all) (fun x hx => .inl (by simp at hx; subst hx; simp [DL.all]))) (fun x hx => .inl hx)
          clear hb1 t1
          refine hK _ _ (Till.mk' ⟨d1.head.cell 2, hq1.cell 0⟩ trivial) ?_
          clear hK K
          try simp only [List.setIfInBounds_toArray, List.set_cons_succ, List.set_cons_zero]
          refine reg_done (by kernel_rfl) ?_ _
          go_wp2_with fail
          go_roundw
          case rel => exact ⟨k + 1, by omega, by go_num, by rw [UP.out]; exact d1, tt1⟩
          case measure => (simp [intOf] <;> omega)
        · rw [hz] at hp4
          clear hz' hz1 hz2
          have UP := Lib.hid (show st.upTo l (k + 1) = ⟨st.left, st.dead, spl (spl (st.upTo l k).synced (n * 64) (pg.take 32)) (n * 64 + 32) (pg.drop 32), st.now, st.writes⟩ from by
            rw [upTo_succ st l k n pg 3 hlt hn'.out hpg'.out hp4]
            simp [crash1, half1, half2])
          clear hp4
          have b1 : (bits BinOp.and IntKind.i64 3 1 != 0) = true := by rfl
          have b2 : (bits BinOp.and IntKind.i64 3 2 != 0) = true := by rfl
          obtain ⟨hq0, tq⟩ := own_write wr Z hZ _ h65
          have d0 := hdd.out.turns tq (by simp)
          have tt0 := ht.trans (tq.mono (L' := D.all) (by simp)) (fun x hx => .inl hx)
          have hqs : ¬ wr.heap.size = D.s := fun e => by have := hdd.out.syn.lt; omega
          go_wp2_with (first
            | (refine wpList_load_mid rfl 101 (.tmp 15) rfl gv (k * 65) rfl _ _ hrange Try.underlying101 rfl hsz ?_)
            | (refine wpList_store_mid rfl 101 (.tmp 5) (.tmp 16) rfl wr.heap.size 0 (Value.int .i64 n :: bvs pg).toArray rfl rfl (there_new _ Z _ _ (by simp [hpl, bvs_length, hZ])) (by simpa using hsz) h1c ?_))
          generalize (wr.alloc (Obj.cells Z 101)).setCells wr.heap.size 0 (Value.int IntKind.i64 ↑n :: bvs pg) = w1 at *
          generalize wr.heap.size = q at *
          clear hz63 hZ Z tq hd hrange b1 b2
          refine reg_begin (fun W => W.cell? ⟨D.g, 2, none⟩ = some (.slice (some ⟨D.s, 0, none⟩) p p) ∧ W.cell? ⟨q, 0, none⟩ = some (.int .i64 n)) (fun _ => True) 11 11 #[false, false, false, false, false, false, false, false, false, false, false] (by kernel_rfl) (by kernel_rfl) (by kernel_rfl) ?_
          refine reg_take 0 31 10 #[true, false, false, false, false, false, false, false, false, false, false] (by rfl) (v := ?_) rfl rfl (by kernel_rfl) (by kernel_rfl) (by kernel_rfl) (by kernel_rfl) (fun _ _ _ h => h) (by rfl) ?_ (Till.mk' ⟨d0.head.cell 2, hq0.cell 0⟩ trivial) ?_
          rotate_left
          · rintro W ⟨hS1, hS2⟩; go_simp; all_goals with_reducible rfl
          try simp only [List.setIfInBounds_toArray, List.set_cons_succ, List.set_cons_zero]
          refine reg_take 1 32 9 #[true, true, false, false, false, false, false, false, false, false, false] (by rfl) (v := ?_) rfl rfl (by kernel_rfl) (by kernel_rfl) (by kernel_rfl) (by kernel_rfl) (fun _ _ _ h => h) (by rfl) ?_ (Till.mk' ⟨d0.head.cell 2, hq0.cell 0⟩ trivial) ?_
          rotate_left
          · rintro W ⟨hS1, hS2⟩; go_simp; all_goals with_reducible rfl
          try simp only [List.setIfInBounds_toArray, List.set_cons_succ, List.set_cons_zero]
          refine reg_take 2 33 8 #[true, true, true, false, false, false, false, false, false, false, false] (by rfl) (v := ?_) rfl rfl (by kernel_rfl) (by kernel_rfl) (by kernel_rfl) (by kernel_rfl) (fun _ _ _ h => h) (by rfl) ?_ (Till.mk' ⟨d0.head.cell 2, hq0.cell 0⟩ trivial) ?_
          rotate_left
          · rintro W ⟨hS1, hS2⟩; go_simp; all_goals with_reducible rfl
          try simp only [List.setIfInBounds_toArray, List.set_cons_succ, List.set_cons_zero]
          refine reg_take 3 34 7 #[true, true, true, true, false, false, false, false, false, false, false] (by rfl) (v := ?_) rfl rfl (by kernel_rfl) (by kernel_rfl) (by kernel_rfl) (by kernel_rfl) (fun _ _ _ h => h) (by rfl) ?_ (Till.mk' ⟨d0.head.cell 2, hq0.cell 0⟩ trivial) ?_
          rotate_left
          · rintro W ⟨hS1, hS2⟩; go_simp; all_goals with_reducible rfl
          try simp only [List.setIfInBounds_toArray, List.set_cons_succ, List.set_cons_zero]
          refine reg_take 4 35 6 #[true, true, true, true, true, false, false, false, false, false, false] (by rfl) (v := ?_) rfl rfl (by kernel_rfl) (by kernel_rfl) (by kernel_rfl) (by kernel_rfl) (fun _ _ _ h => h) (by rfl) ?_ (Till.mk' ⟨d0.head.cell 2, hq0.cell 0⟩ trivial) ?_
          rotate_left
          · rintro W ⟨hS1, hS2⟩; go_simp; all_goals with_reducible rfl
          try simp only [List.setIfInBounds_toArray, List.set_cons_succ, List.set_cons_zero]
          refine reg_take 5 36 5 #[true, true, true, true, true, true, false, false, false, false, false] (by rfl) (v := ?_) rfl rfl (by kernel_rfl) (by kernel_rfl) (by kernel_rfl) (by kernel_rfl) (fun _ _ _ h => h) (by rfl) ?_ (Till.mk' ⟨d0.head.cell 2, hq0.cell 0⟩ trivial) ?_
          rotate_left
          · rintro W ⟨hS1, hS2⟩; go_simp; all_goals with_reducible rfl
          try simp only [List.setIfInBounds_toArray, List.set_cons_succ, List.set_cons_zero]
          refine reg_take 6 37 4 #[true, true, true, true, true, true, true, false, false, false, false] (by rfl) (v := ?_) rfl rfl (by kernel_rfl) (by kernel_rfl) (by kernel_rfl) (by kernel_rfl) (fun _ _ _ h => h) (by rfl) ?_ (Till.mk' ⟨d0.head.cell 2, hq0.cell 0⟩ trivial) ?_
          rotate_left
          · rintro W ⟨hS1, hS2⟩; go_simp; all_goals with_reducible rfl
          try simp only [List.setIfInBounds_toArray, List.set_cons_succ, List.set_cons_zero]
          refine reg_take 7 38 3 #[true, true, true, true, true, true, true, true, false, false, false] (by rfl) (v := ?_) rfl rfl (by kernel_rfl) (by kernel_rfl) (by kernel_rfl) (by kernel_rfl) (fun _ _ _ h => h) (by rfl) ?_ (Till.mk' ⟨d0.head.cell 2, hq0.cell 0⟩ trivial) ?_
          rotate_left
          · rintro W ⟨hS1, hS2⟩; go_simp; all_goals with_reducible rfl
          try simp only [List.setIfInBounds_toArray, List.set_cons_succ, List.set_cons_zero]
          refine reg_take 8 39 2 #[true, true, true, true, true, true, true, true, true, false, false] (by rfl) (v := ?_) rfl rfl (by kernel_rfl) (by kernel_rfl) (by kernel_rfl) (by kernel_rfl) (fun _ _ _ h => h) (by rfl) ?_ (Till.mk' ⟨d0.head.cell 2, hq0.cell 0⟩ trivial) ?_
          rotate_left
          · rintro W ⟨hS1, hS2⟩; go_simp; all_goals with_reducible rfl
          try simp only [List.setIfInBounds_toArray, List.set_cons_succ, List.set_cons_zero]
          refine reg_take 9 40 1 #[true, true, true, true, true, true, true, true, true, true, false] (by rfl) (v := ?_) rfl rfl (by kernel_rfl) (by kernel_rfl) (by kernel_rfl) (by kernel_rfl) (fun _ _ _ h => h) (by rfl) ?_ (Till.mk' ⟨d0.head.cell 2, hq0.cell 0⟩ trivial) ?_
          rotate_left
          · rintro W ⟨hS1, hS2⟩; go_simp; all_goals with_reducible rfl
          try simp only [List.setIfInBounds_toArray, List.set_cons_succ, List.set_cons_zero]
          refine reg_one 10 0 #[true, true, true, true, true, true, true, true, true, true, true] (by kernel_rfl) rfl (by rfl) (by kernel_rfl) (fun K hK => ?_)
          have hrun := run_copy_blk (s := 34) (dLen := 32) (dCap := 64) (o := n * 64) T8 3 d0.syn.drew (hq0.drew.sl 1 32 64 1 (by simp [hpl, bvs_length]) (by omega) (by simp [maxLen])) (by intro u hu; rw [hcut1] at hu; exact bvs_one _ u hu) (by rw [bvs_length, d0.lenS]; omega)
          rw [hcut1] at hrun
          refine wp_copy_run (.tmp 38) (.tmp 40) rfl hrun (by rfl) (by rfl) ?_
          clear hrun
          rintro v1 w1 ⟨rfl, hb1, t1⟩
          rw [hmin1] at hb1
          have d1 := half_did d0 hb1 t1
          have hq1 := hq0.drew.turns t1 (by simp; exact hqs)
          have tt1 := tt0.drew.trans (t1.mono (L' := D.all) (fun x hx => .inl (by simp at hx; subst hx; simp [DL.all]))) (fun x hx => .inl hx)
          clear hb1 t1
          refine hK _ _ (Till.mk' ⟨d1.head.cell 2, hq1.cell 0⟩ trivial) ?_
          clear hK K
          try simp only [List.setIfInBounds_toArray, List.set_cons_succ, List.set_cons_zero]
          refine reg_done (by kernel_rfl) ?_ _
          go_wp2_with fail
          refine reg_begin (fun W => W.cell? ⟨D.g, 2, none⟩ = some (.slice (some ⟨D.s, 0, none⟩) p p) ∧ W.cell? ⟨q, 0, none⟩ = some (.int .i64 n)) (fun _ => True) 11 11 #[false, false, false, false, false, false, false, false, false, false, false] (by kernel_rfl) (by kernel_rfl) (by kernel_rfl) ?_
          refine reg_take 0 45 10 #[true, false, false, false, false, false, false, false, false, false, false] (by rfl) (v := ?_) rfl rfl (by kernel_rfl) (by kernel_rfl) (by kernel_rfl) (by kernel_rfl) (fun _ _ _ h => h) (by rfl) ?_ (Till.mk' ⟨d1.head.cell 2, hq1.cell 0⟩ trivial) ?_
          rotate_left
          · rintro W ⟨hS1, hS2⟩; go_simp; all_goals with_reducible rfl
          try simp only [List.setIfInBounds_toArray, List.set_cons_succ, List.set_cons_zero]
          refine reg_take 1 46 9 #[true, true, false, false, false, false, false, false, false, false, false] (by rfl) (v := ?_) rfl rfl (by kernel_rfl) (by kernel_rfl) (by kernel_rfl) (by kernel_rfl) (fun _ _ _ h => h) (by rfl) ?_ (Till.mk' ⟨d1.head.cell 2, hq1.cell 0⟩ trivial) ?_
          rotate_left
          · rintro W ⟨hS1, hS2⟩; go_simp; all_goals with_reducible rfl
          try simp only [List.setIfInBounds_toArray, List.set_cons_succ, List.set_cons_zero]
          refine reg_take 2 47 8 #[true, true, true, false, false, false, false, false, false, false, false] (by rfl) (v := ?_) rfl rfl (by kernel_rfl) (by kernel_rfl) (by kernel_rfl) (by kernel_rfl) (fun _ _ _ h => h) (by rfl) ?_ (Till.mk' ⟨d1.head.cell 2, hq1.cell 0⟩ trivial) ?_
          rotate_left
          · rintro W ⟨hS1, hS2⟩; go_simp; all_goals with_reducible rfl
          try simp only [List.setIfInBounds_toArray, List.set_cons_succ, List.set_cons_zero]
          refine reg_take 3 48 7 #[true, true, true, true, false, false, false, false, false, false, false] (by rfl) (v := ?_) rfl rfl (by kernel_rfl) (by kernel_rfl) (by kernel_rfl) (by kernel_rfl) (fun _ _ _ h => h) (by rfl) ?_ (Till.mk' ⟨d1.head.cell 2, hq1.cell 0⟩ trivial) ?_
          rotate_left
          · rintro W ⟨hS1, hS2⟩; go_simp; all_goals with_reducible rfl
          try simp only [List.setIfInBounds_toArray, List.set_cons_succ, List.set_cons_zero]
          refine reg_take 4 49 6 #[true, true, true, true, true, false, false, false, false, false, false] (by rfl) (v := ?_) rfl rfl (by kernel_rfl) (by kernel_rfl) (by kernel_rfl) (by kernel_rfl) (fun _ _ _ h => h) (by rfl) ?_ (Till.mk' ⟨d1.head.cell 2, hq1.cell 0⟩ trivial) ?_
          rotate_left
          · rintro W ⟨hS1, hS2⟩; go_simp; all_goals with_reducible rfl
          try simp only [List.setIfInBounds_toArray, List.set_cons_succ, List.set_cons_zero]
          refine reg_take 5 50 5 #[true, true, true, true, true, true, false, false, false, false, false] (by rfl) (v := ?_) rfl rfl (by kernel_rfl) (by kernel_rfl) (by kernel_rfl) (by kernel_rfl) (fun _ _ _ h => h) (by rfl) ?_ (Till.mk' ⟨d1.head.cell 2, hq1.cell 0⟩ trivial) ?_
          rotate_left
          · rintro W ⟨hS1, hS2⟩; go_simp; all_goals with_reducible rfl
          try simp only [List.setIfInBounds_toArray, List.set_cons_succ, List.set_cons_zero]
          refine reg_take 6 51 4 #[true, true, true, true, true, true, true, false, false, false, false] (by rfl) (v := ?_) rfl rfl (by kernel_rfl) (by kernel_rfl) (by kernel_rfl) (by kernel_rfl) (fun _ _ _ h => h) (by rfl) ?_ (Till.mk' ⟨d1.head.cell 2, hq1.cell 0⟩ trivial) ?_
          rotate_left
          · rintro W ⟨hS1, hS2⟩; go_simp; all_goals with_reducible rfl
          try simp only [List.setIfInBounds_toArray, List.set_cons_succ, List.set_cons_zero]
          refine reg_take 7 52 3 #[true, true, true, true, true, true, true, true, false, false, false] (by rfl) (v := ?_) rfl rfl (by kernel_rfl) (by kernel_rfl) (by kernel_rfl) (by kernel_rfl) (fun _ _ _ h => h) (by rfl) ?_ (Till.mk' ⟨d1.head.cell 2, hq1.cell 0⟩ trivial) ?_
          rotate_left
          · rintro W ⟨hS1, hS2⟩; go_simp; all_goals with_reducible rfl
          try simp only [List.setIfInBounds_toArray, List.set_cons_succ, List.set_cons_zero]
          refine reg_take 8 53 2 #[true, true, true, true, true, true, true, true, true, false, false] (by rfl) (v := ?_) rfl rfl (by kernel_rfl) (by kernel_rfl) (by kernel_rfl) (by kernel_rfl) (fun _ _ _ h => h) (by rfl) ?_ (Till.mk' ⟨d1.head.cell 2, hq1.cell 0⟩ trivial) ?_
          rotate_left
          · rintro W ⟨hS1, hS2⟩; go_simp; all_goals with_reducible rfl
          try simp only [List.setIfInBounds_toArray, List.set_cons_succ, List.set_cons_zero]
          refine reg_take 9 54 1 #[true, true, true, true, true, true, true, true, true, true, false] (by rfl) (v := ?_) rfl rfl (by kernel_rfl) (by kernel_rfl) (by kernel_rfl) (by kernel_rfl) (fun _ _ _ h => h) (by rfl) ?_ (Till.mk' ⟨d1.head.cell 2, hq1.cell 0⟩ trivial) ?_
          rotate_left
          · rintro W ⟨hS1, hS2⟩; go_simp; all_goals with_reducible rfl
          try simp only [List.setIfInBounds_toArray, List.set_cons_succ, List.set_cons_zero]
          refine reg_one 10 0 #[true, true, true, true, true, true, true, true, true, true, true] (by kernel_rfl) rfl (by rfl) (by kernel_rfl) (fun K hK => ?_)
          have hrun := run_copy_blk (s := 34) (dLen := 32) (dCap := 32) (o := n * 64 + 32) T8 3 d1.syn.drew (hq1.drew.sl 33 32 32 1 (by simp [hpl, bvs_length]) (by omega) (by simp [maxLen])) (by intro u hu; rw [hcut2] at hu; exact bvs_one _ u hu) (by rw [bvs_length, d1.lenS]; omega)
          rw [hcut2] at hrun
          refine wp_copy_run (.tmp 52) (.tmp 54) rfl hrun (by rfl) (by rfl) ?_
          clear hrun
          rintro v2 w2 ⟨rfl, hb2, t2⟩
          rw [hmin2] at hb2
          have d2 := half_did d1 hb2 t2
          have hq2 := hq1.drew.turns t2 (by simp; exact hqs)
          have tt2 := tt1.drew.trans (t2.mono (L' := D.all) (fun x hx => .inl (by simp at hx; subst hx; simp [DL.all]))) (fun x hx => .inl hx)
          clear hb2 t2
          refine hK _ _ (Till.mk' ⟨d2.head.cell 2, hq2.cell 0⟩ trivial) ?_
          clear hK K
          try simp only [List.setIfInBounds_toArray, List.set_cons_succ, List.set_cons_zero]
          refine reg_done (by kernel_rfl) ?_ _
          go_wp2_with fail
          go_roundw
          case rel => exact ⟨k + 1, by omega, by go_num, by rw [UP.out]; exact d2, tt2⟩
          case measure => (simp [intOf] <;> omega)
      · have hp4 : pick4 l k = 0 := by unfold pick4; rw [List.getD_eq_getElem?_getD, List.getElem?_eq_none (by omega)]; rfl
        have UP := Lib.hid (show st.upTo l (k + 1) = ⟨st.left, st.dead, (st.upTo l k).synced, st.now, st.writes⟩ from by
          rw [upTo_succ st l k n pg 0 hlt hn'.out hpg'.out hp4]
          simp [crash1, half1, half2])
        clear hp4
        have b1 : (bits BinOp.and IntKind.i64 0 1 != 0) = false := by rfl
        have b2 : (bits BinOp.and IntKind.i64 0 2 != 0) = false := by rfl
        obtain ⟨hq0, tq⟩ := own_write wr Z hZ _ h65
        have d0 := hdd.out.turns tq (by simp)
        have tt0 := ht.trans (tq.mono (L' := D.all) (by simp)) (fun x hx => .inl hx)
        have hqs : ¬ wr.heap.size = D.s := fun e => by have := hdd.out.syn.lt; omega
        go_wp2_with (first
          | (refine wpList_load_mid rfl 101 (.tmp 15) rfl gv (k * 65) rfl _ _ hrange Try.underlying101 rfl hsz ?_)
          | (refine wpList_store_mid rfl 101 (.tmp 5) (.tmp 16) rfl wr.heap.size 0 (Value.int .i64 n :: bvs pg).toArray rfl rfl (there_new _ Z _ _ (by simp [hpl, bvs_length, hZ])) (by simpa using hsz) h1c ?_))
        generalize (wr.alloc (Obj.cells Z 101)).setCells wr.heap.size 0 (Value.int IntKind.i64 ↑n :: bvs pg) = w1 at *
        generalize wr.heap.size = q at *
        clear hz63 hZ Z tq hd hrange b1 b2
        go_roundw
        case rel => exact ⟨k + 1, by omega, by go_num, by rw [UP.out]; exact d0, tt0⟩
        case measure => (simp [intOf] <;> omega)
    · obtain rfl : k = st.writes.length := by omega
      have hS : wr.cell? ⟨D.g, 3, none⟩ = some (.slice (some ⟨D.m, 0, none⟩) p p) ∧ wr.cell? ⟨D.g, 2, none⟩ = some (.slice (some ⟨D.s, 0, none⟩) p p) := ⟨hd.head.cell 3, hd.head.cell 2⟩
      have e1 : st.upTo l st.writes.length = ⟨st.left, st.dead, crashS l 0 st.writes st.synced, st.now, st.writes⟩ := by unfold DS.upTo; rw [List.take_length]
      rw [e1] at hd
      clear e1
      have hl0 := hd.left0
      obtain ⟨X, hX⟩ : ∃ X, X = crashS l 0 st.writes st.synced := ⟨_, rfl⟩
      have e2 : st.crash l = ⟨0, false, X, X, []⟩ := by rw [hX]; rfl
      have E2 := Lib.hid e2
      rw [← hX] at hd
      clear e2 hX
      have hd0 : DiskDid w B D p _ wr D := ⟨hd, ⟨rfl, rfl, rfl⟩, ht, fun _ hx => .inl hx⟩
      go_wp2_with fail
      refine reg_begin (fun W => W.cell? ⟨D.g, 3, none⟩ = some (.slice (some ⟨D.m, 0, none⟩) p p) ∧ W.cell? ⟨D.g, 2, none⟩ = some (.slice (some ⟨D.s, 0, none⟩) p p)) (fun _ => True) 9 9 #[false, false, false, false, false, false, false, false, false] (by kernel_rfl) (by kernel_rfl) (by kernel_rfl) ?_
      refine reg_take 0 57 8 #[true, false, false, false, false, false, false, false, false] (by rfl) (v := ?_) rfl rfl (by kernel_rfl) (by kernel_rfl) (by kernel_rfl) (by kernel_rfl) (fun _ _ _ h => h) (by rfl) ?_ (Till.mk' hS trivial) ?_
      rotate_left
      · rintro W ⟨hS1, hS2⟩; go_simp; all_goals with_reducible rfl
      try simp only [List.setIfInBounds_toArray, List.set_cons_succ, List.set_cons_zero]
      refine reg_take 1 58 7 #[true, true, false, false, false, false, false, false, false] (by rfl) (v := ?_) rfl rfl (by kernel_rfl) (by kernel_rfl) (by kernel_rfl) (by kernel_rfl) (fun _ _ _ h => h) (by rfl) ?_ (Till.mk' hS trivial) ?_
      rotate_left
      · rintro W ⟨hS1, hS2⟩; go_simp; all_goals with_reducible rfl
      try simp only [List.setIfInBounds_toArray, List.set_cons_succ, List.set_cons_zero]
      refine reg_take 2 59 6 #[true, true, true, false, false, false, false, false, false] (by rfl) (v := ?_) rfl rfl (by kernel_rfl) (by kernel_rfl) (by kernel_rfl) (by kernel_rfl) (fun _ _ _ h => h) (by rfl) ?_ (Till.mk' hS trivial) ?_
      rotate_left
      · rintro W ⟨hS1, hS2⟩; go_simp; all_goals with_reducible rfl
      try simp only [List.setIfInBounds_toArray, List.set_cons_succ, List.set_cons_zero]
      refine reg_take 3 60 5 #[true, true, true, true, false, false, false, false, false] (by rfl) (v := ?_) rfl rfl (by kernel_rfl) (by kernel_rfl) (by kernel_rfl) (by kernel_rfl) (fun _ _ _ h => h) (by rfl) ?_ (Till.mk' hS trivial) ?_
      rotate_left
      · rintro W ⟨hS1, hS2⟩; go_simp; all_goals with_reducible rfl
      try simp only [List.setIfInBounds_toArray, List.set_cons_succ, List.set_cons_zero]
      refine reg_take 4 61 4 #[true, true, true, true, true, false, false, false, false] (by rfl) (v := ?_) rfl rfl (by kernel_rfl) (by kernel_rfl) (by kernel_rfl) (by kernel_rfl) (fun _ _ _ h => h) (by rfl) ?_ (Till.mk' hS trivial) ?_
      rotate_left
      · rintro W ⟨hS1, hS2⟩; go_simp; all_goals with_reducible rfl
      try simp only [List.setIfInBounds_toArray, List.set_cons_succ, List.set_cons_zero]
      refine reg_take 5 62 3 #[true, true, true, true, true, true, false, false, false] (by rfl) (v := ?_) rfl rfl (by kernel_rfl) (by kernel_rfl) (by kernel_rfl) (by kernel_rfl) (fun _ _ _ h => h) (by rfl) ?_ (Till.mk' hS trivial) ?_
      rotate_left
      · rintro W ⟨hS1, hS2⟩; go_simp; all_goals with_reducible rfl
      try simp only [List.setIfInBounds_toArray, List.set_cons_succ, List.set_cons_zero]
      refine reg_take 6 63 2 #[true, true, true, true, true, true, true, false, false] (by rfl) (v := ?_) rfl rfl (by kernel_rfl) (by kernel_rfl) (by kernel_rfl) (by kernel_rfl) (fun _ _ _ h => h) (by rfl) ?_ (Till.mk' hS trivial) ?_
      rotate_left
      · rintro W ⟨hS1, hS2⟩; go_simp; all_goals with_reducible rfl
      try simp only [List.setIfInBounds_toArray, List.set_cons_succ, List.set_cons_zero]
      refine reg_take 7 64 1 #[true, true, true, true, true, true, true, true, false] (by rfl) (v := ?_) rfl rfl (by kernel_rfl) (by kernel_rfl) (by kernel_rfl) (by kernel_rfl) (fun _ _ _ h => h) (by rfl) ?_ (Till.mk' hS trivial) ?_
      rotate_left
      · rintro W ⟨hS1, hS2⟩; go_simp; all_goals with_reducible rfl
      try simp only [List.setIfInBounds_toArray, List.set_cons_succ, List.set_cons_zero]
      refine reg_one 8 0 #[true, true, true, true, true, true, true, true, true] (by kernel_rfl) rfl (by rfl) (by kernel_rfl) (fun K hK => ?_)
      have hrun := run_copy_blk (s := 63) (dLen := p) (dCap := p) (o := 0) T61 3 hd.now.drew (hd.syn.drew.sl 0 p p 64 (by rw [bvs_length, hd.lenS]; omega) (Nat.le_refl _) (by simp [maxLen]; have := hd.pages; omega)) (fun u hu => bvs_one _ u (List.mem_of_mem_drop (List.mem_of_mem_take hu))) (by rw [bvs_length, hd.lenN, Nat.min_self]; omega)
      refine wp_copy_run (.tmp 60) (.tmp 64) rfl hrun (by rfl) (by rfl) ?_
      clear hrun
      rintro v2 w2 ⟨rfl, hb2, t2⟩
      have hb2 := copied_now hb2 hd
      have D1 := hd0.trans (now_did hd hb2 t2)
      clear hb2
      refine hK _ _ (Till.mk' ⟨D1.is.head.cell 3, D1.is.head.cell 2⟩ trivial) ?_
      clear hK K
      try simp only [List.setIfInBounds_toArray, List.set_cons_succ, List.set_cons_zero]
      refine reg_done (by kernel_rfl) ?_ _
      have D2 := D1.trans (clear_did D1.is)
      have c4 : w2.cell? ⟨D.g, 4, none⟩ = some D.v := D1.is.head.cell 4
      have f4 := D1.is.head.free 4
      have D2i := D2.is
      clear D1 hd hd0 t2
      have IS := Lib.hid (fun (W : World) (h0 : W.cell? ⟨D.g, 0, none⟩ = some (.int .i64 st.left)) (h1 : W.frozen? ⟨D.g, 0, none⟩ = false) => IntStore_any ⟨D.g, 0, none⟩ _ 0 W h0 h1)
      have BS := Lib.hid (fun (W : World) (h0 : W.cell? ⟨D.g, 1, none⟩ = some (.int .u32 (dflag st.dead))) (h1 : W.frozen? ⟨D.g, 1, none⟩ = false) => BoolStore_any ⟨D.g, 1, none⟩ _ false W h0 h1)
      go_wp2_with fail
      generalize w2.setCell ⟨D.g, 4, none⟩ (.slice none 0 0) = w3 at *
      refine (IS.out _ (D2i.head.cell 0) (D2i.head.free 0)).mono ?_
      rintro e4 w4 ⟨rfl, rfl⟩
      have b4 := D2i.head.set 0 (.int .i64 0)
      have b5 := b4.drew.set 1 (.int .u32 0)
      have D5 := power_did (L := 0) (d := false) D2i b5 ((((Turns.refl [D.g] w3).setCell (p := ⟨D.g, 0, none⟩) (.inl (by simp)) _).drew).setCell (p := ⟨D.g, 1, none⟩) (.inl (by simp)) _) (by omega)
      have hh := D2.trans D5
      clear b5 D5
      have c1 := b4.cell 1
      have f1 := b4.free 1
      go_wp2_with fail
      refine (BS.out _ c1 f1).mono ?_
      rintro e4 w5 ⟨rfl, rfl⟩
      clear b4 c1 f1 c4 f4
      go_wp2_with fail
      go_end0
      exact ⟨rfl, by rw [E2.out]; exact hh⟩
end Go.Proofs.Ytdhbaepmbgoobaa
