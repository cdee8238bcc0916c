/- The law DiskStops, walked. -/
import Derived.Test.YtemhlnjnbccpgaaDLaw
import Derived.Test.YtemhlnjnbccpgaaWithinL
namespace Go.Proofs.Ytemhlnjnbccpgaa
open Go.RowKit
set_option linter.unusedVariables false
set_option linter.unusedSimpArgs false
set_option linter.unnecessarySimpa false

theorem tdiv3 (z : Int) (h : -9223372036854775808 ≤ z ∧ z ≤ 9223372036854775807) : -9223372036854775808 ≤ z.tdiv 3 ∧ z.tdiv 3 ≤ 9223372036854775807 := by
  rcases Int.le_total 0 z with h0 | h0
  · rw [Int.tdiv_eq_ediv_of_nonneg h0]; omega
  · have e : z.tdiv 3 = -((-z).tdiv 3) := by rw [Int.neg_tdiv]; omega
    rw [e, Int.tdiv_eq_ediv_of_nonneg (by omega)]; omega
/-- Behind o operations of m: the power is there as long as o is less. -/
structure SI (st : DS) (m o : Nat) : Prop where
  left : st.left = (m : Int) - o
  dead : st.dead = decide (o = m)
  fine : st.fine 4
  le : o ≤ m
theorem SI.code {st : DS} {m o : Nat} (h : SI st m o) (hlt : o < m) : st.code = if o + 1 = m then 15 else 0 := by
  unfold DS.code
  rw [h.left]
  by_cases e : o + 1 = m
  · rw [if_pos (by omega), if_pos e]
  · rw [if_neg (by omega), if_neg e]
theorem SI.counted {st : DS} {m o : Nat} (h : SI st m o) (hlt : o < m) : SI st.counted m (o + 1) := by
  refine ⟨?_, ?_, h.fine, by omega⟩
  · show (if 0 < st.left then st.left - 1 else st.left) = _
    rw [h.left, if_pos (by omega)]; omega
  · show (st.dead || decide (st.left = 1)) = _
    rw [h.dead, h.left, decide_eq_false (show ¬ o = m by omega), Bool.false_or]
    by_cases e : o + 1 = m
    · rw [decide_eq_true e, decide_eq_true (by omega)]
    · rw [decide_eq_false e, decide_eq_false (by omega)]
theorem SI.wrote {st : DS} {m o : Nat} (h : SI st m o) (hlt : o < m) (n : Nat) (hn : n < 4) (pg : List UInt8) (hpg : pg.length = 64) : SI (st.wrote n pg) m (o + 1) := by
  have k : SI ⟨st.left, st.dead, st.synced, spl st.now (n * 64) pg, st.writes ++ [(n, pg)]⟩ m o := ⟨h.left, h.dead, by
    intro x hx
    rcases List.mem_append.1 hx with hx | hx
    · exact h.fine x hx
    · rcases List.mem_singleton.1 hx with rfl; exact ⟨hn, hpg⟩, h.le⟩
  exact k.counted hlt
theorem SI.sync {st : DS} {m o : Nat} (h : SI st m o) (hlt : o < m) : SI st.sync m (o + 1) := by
  have c := h.counted hlt
  have hd : st.dead = false := by rw [h.dead]; simp; omega
  unfold DS.sync
  rw [if_neg (by simp [hd])]
  split
  · exact c
  · exact ⟨c.left, c.dead, (by intro x hx; cases hx), c.le⟩
theorem wrote_wl (st : DS) (n : Nat) (pg : List UInt8) (k : Nat) (h : st.writes.length ≤ k) : (st.wrote n pg).writes.length ≤ k + 1 := by
  show (st.writes ++ [(n, pg)]).length ≤ _
  simp; omega
theorem sync_wl (st : DS) (k : Nat) (h : st.writes.length ≤ k) : st.sync.writes.length ≤ k + 1 := by
  unfold DS.sync
  split
  · omega
  · split
    · show st.writes.length ≤ _; omega
    · show 0 ≤ _; omega
theorem sl_byte (W : World) (k : Nat) (hk : k < 256) : Sl (W.alloc (.cells #[.int .u8 (k : Int)] 5)) (W.alloc (.cells #[.int .u8 (k : Int)] 5)).heap.size 1 (.slice (some ⟨W.heap.size, 0, none⟩) 1 1) 1 (bvs [UInt8.ofNat k]) := by
  have h := (Sl.new W #[.int .u8 (k : Int)] 5 1 1 rfl (by simp [maxLen])).more (B' := (W.alloc (.cells #[.int .u8 (k : Int)] 5)).heap.size) (by simp)
  have e : (#[Value.int .u8 (k : Int)] : Array Value).toList = bvs [UInt8.ofNat k] := by
    simp [bvs, u8v, UInt8.toNat_ofNat', Nat.mod_eq_of_lt hk]
  rw [e] at h
  exact h
theorem DD_no {w0 w : World} {B g p : Nat} {st : DS} {X : List Nat} (h : At w0 w B g p st X) (n : Int) (l : Nat) (A : Option Addr) (c : Nat) (hl : l ≤ 9223372036854775807) (hd : st.dead = true) :
    Calls Try.prog 11 #[.pointer (some ⟨g, 0, none⟩), .int .i64 n, .slice A l c] w fun e w' => e = .returned (.int .i64 15) ∧ w = w' := by
  have hc : st.checked p n l = 15 := by unfold DS.checked; rw [if_pos hd]
  have := Write_no h n l A c hl (by rw [hc]; omega)
  rw [hc] at this
  exact this

set_option maxRecDepth 100000 in
set_option maxHeartbeats 4000000 in
theorem DiskStops_walk (zn : Int) (Ak : Option Addr) (ck : Nat) (ks : List Int) (w : World) (hzn : -9223372036854775808 ≤ zn ∧ zn ≤ 9223372036854775807)
    (hks : Sl w w.heap.size 1 (.slice Ak ks.length ck) ks.length (ks.map (Value.int .i64))) (hzs : ∀ z ∈ ks, -9223372036854775808 ≤ z ∧ z ≤ 9223372036854775807) :
    Calls Try.prog 7 #[.int .i64 zn, .slice Ak ks.length ck] w fun e w' => e = .returned (.bool true) ∧ Below w.heap.size w w' := by
  have KN := Lib.hid (known_any w)
  have mk : ks.length ≤ 9223372036854775807 := by
    obtain ⟨_, _, _, ee, h1, h2, _⟩ := hks
    injection ee with _ _ e3
    subst e3
    unfold maxLen at h2; omega
  obtain ⟨r, hr⟩ : ∃ r : Nat, zn % 12 = r := ⟨(zn % 12).toNat, by omega⟩
  have hr12 : r < 12 := by omega
  obtain ⟨m, hm⟩ : ∃ m : Nat, m = 1 + r := ⟨_, rfl⟩
  have WN := fun W => within_any zn 12 W hzn.1 hzn.2 (by omega) (by omega)
  rw [hr] at WN
  have WN' := Lib.hid WN
  clear WN hr
  go_enter Try.func7, Try.ntmps7
  go_wp2_with fail
  refine KN.out.mono ?_
  rintro e w1 ⟨rfl, bel1⟩
  clear KN
  have NW := Lib.hid (New_at 4 (by omega) (by omega) bel1)
  go_wp2_with fail
  refine NW.out.mono ?_
  rintro e w2 ⟨B, g, rfl, hA2, -⟩
  clear NW bel1
  go_wp2_with fail
  refine (WN'.out w2).mono ?_
  rintro e ww ⟨rfl, rfl⟩
  clear WN'
  have SP := Stop_at hA2 (m : Int) (by omega)
  rw [show ((m : Nat) : Int) = 1 + (r : Int) by omega] at SP
  have SP' := Lib.hid SP
  clear SP
  go_wp2_with fail
  refine SP'.out.mono ?_
  rintro e w3 ⟨rfl, hA3, -⟩
  clear SP' hA2
  have inv0 : SI ((fresh 4).stop (1 + (r : Int))) m 0 := ⟨by show max _ _ = _; omega, by show false = _; simp; omega, (by intro x hx; cases hx), by omega⟩
  rw [show 1 + (r : Int) = ((m : Nat) : Int) by omega] at hA3 inv0 ⊢
  have hm12 : m ≤ 12 := by omega
  have hm1 : 1 ≤ m := by omega
  clear hm hr12
  have wl0 : ((fresh 4).stop (m : Int)).writes.length ≤ 0 := Nat.le_refl _
  generalize (fresh 4).stop (m : Int) = st0 at *
  skip
  go_wp2_with fail
  go_loopw [7, 8] (fun vo i wr => ∃ (k o : Nat) (st : DS), k ≤ 25 ∧ i = .int .i64 k ∧ vo = .int .i64 o ∧ At w wr B g 4 st [] ∧ SI st m o ∧ st.writes.length ≤ k) (fun _ i _ => 25 - (intOf i).toNat)
  case atStart => exact ⟨0, 0, _, by omega, rfl, rfl, hA3, inv0, wl0⟩
  case round =>
    clear hA3 inv0 wl0
    obtain ⟨k, o, st, hk, rfl, rfl, hA, inv, hwl⟩ := hrel
    have hom := inv.le
    by_cases hlt : k < ks.length ∧ k < 25
    · obtain ⟨hlt1, hlt2⟩ := hlt
      have hlt2' : (k : Int) < 25 := by omega
      have hz := hzs _ (List.getElem_mem hlt1)
      obtain ⟨_, _, _, ee, _, _, _, hrd⟩ := hks
      injection ee with ee1 ee2 ee3
      subst ee1
      clear ee2 ee3
      obtain ⟨bl, ol, rfl, hbl, hc0⟩ := Rd.at_ hrd (k := k) (by simpa using hlt1)
      rw [List.getElem_map] at hc0
      generalize ks[k] = z at hz hc0
      have hcw := Lib.hid (fun W (h : Below w.heap.size w W) => (h.cell (p := ⟨bl, ol + k, none⟩) hbl).trans hc0)
      have hc := hcw.out wr hA.bel
      clear hc0
      have hq0 : -9223372036854775808 ≤ z.tdiv 3 ∧ z.tdiv 3 ≤ 9223372036854775807 := tdiv3 z hz
      obtain ⟨q, hq⟩ : ∃ q : Nat, z.tdiv 3 % 4 = q := ⟨(z.tdiv 3 % 4).toNat, by omega⟩
      have hq4 : q < 4 := by omega
      have WQ := fun W => within_any (z.tdiv 3) 4 W hq0.1 hq0.2 (by omega) (by omega)
      rw [hq] at WQ
      replace WQ := Lib.hid WQ
      have WZ := fun W => within_any z 3 W hz.1 hz.2 (by omega) (by omega)
      have hz3 : z % 3 = 0 ∨ z % 3 = 1 ∨ z % 3 = 2 := by omega
      clear hrd hq
      rcases hz3 with hz3 | hz3 | hz3
      · rw [hz3] at WZ
        replace WZ := Lib.hid WZ
        clear hz3
        by_cases hd : o = m
        · obtain rfl : o = m := by omega
          have hdd : st.dead = true := by rw [inv.dead]; simp
          have f1 : decide (o ≤ o) = true := by simp
          have WR := Lib.hid (fun W (hA : At w W B g 4 st (wr.heap.size :: [])) (q : Int) => (DD_no hA q 1 (some ⟨wr.heap.size, 0, none⟩) 1 (by omega) hdd))
          go_wp2_with fail
          refine (WZ.out wr).mono ?_
          rintro e ww ⟨rfl, rfl⟩
          go_wp2_with fail
          refine (WQ.out wr).mono ?_
          rintro e ww ⟨rfl, rfl⟩
          have hAn := hA.alloc (.cells #[.int .u8 (k : Int)] 5)
          have sl1 := sl_byte wr k (by omega)
          go_wp2_with fail
          refine (WR.out _ hAn _).mono ?_
          rintro e w5 ⟨rfl, rfl⟩
          have hA' := hAn.sub (Y := []) (by simp)
          have DE := Dead_at hA'
          rw [show st.dead = true from hdd] at DE
          have DE' := Lib.hid DE
          have bel5 := hA'.bel
          clear DE
          go_wp2_with fail
          refine DE'.out.mono ?_
          rintro e ww ⟨rfl, rfl⟩
          go_wp2_with fail
          go_roundw
          case rel => exact ⟨k + 1, o, st, by omega, by go_num, by go_num, hA', inv, (by omega)⟩
          case measure => (simp [intOf] <;> omega)
        · by_cases hl : o + 1 = m
          · have hdd : st.dead = false := by rw [inv.dead]; simp; omega
            have f1 : decide (m ≤ o) = false := by simp; omega
            have f2 : (((o : Int) + 1) == (m : Int)) = true := by simp; omega
            have f3 : decide ((m : Int) ≤ (o : Int) + 1) = true := by simp; omega
            have f4 : decide (m ≤ o + 1) = true := by simp; omega
            have WR := fun W (hA : At w W B g 4 st (wr.heap.size :: [])) sl (q : Nat) (hq : q < 4) => Write_at hA q (.slice (some ⟨wr.heap.size, 0, none⟩) 1 1) 1 [UInt8.ofNat k] sl hq (by show 1 ≤ _; omega) hdd (by omega)
            rw [inv.code (by omega)] at WR
            rw [if_pos (by omega)] at WR
            have WR' := Lib.hid WR
            clear WR
            go_wp2_with fail
            refine (WZ.out wr).mono ?_
            rintro e ww ⟨rfl, rfl⟩
            go_wp2_with fail
            refine (WQ.out wr).mono ?_
            rintro e ww ⟨rfl, rfl⟩
            have hAn := hA.alloc (.cells #[.int .u8 (k : Int)] 5)
            have sl1 := sl_byte wr k (by omega)
            go_wp2_with fail
            refine (WR'.out _ hAn sl1 q hq4).mono ?_
            rintro e w5 ⟨rfl, hA', -⟩
            replace hA' := hA'.sub (Y := []) (by simp)
            have DE := Dead_at hA'
            rw [show (st.wrote q (pageOf [UInt8.ofNat k])).dead = true from (inv.wrote (by omega) q hq4 _ (pageOf_length _ (by show 1 ≤ _; omega))).dead.trans (by simp; omega)] at DE
            have DE' := Lib.hid DE
            have bel5 := hA'.bel
            clear DE
            have hc5 := hcw.out w5 bel5
            go_wp2_with fail
            refine (WZ.out w5).mono ?_
            rintro e ww ⟨rfl, rfl⟩
            go_wp2_with fail
            refine DE'.out.mono ?_
            rintro e ww ⟨rfl, rfl⟩
            go_wp2_with fail
            go_roundw
            case rel => exact ⟨k + 1, (o + 1), (st.wrote q (pageOf [UInt8.ofNat k])), by omega, by go_num, by go_num, hA', (inv.wrote (by omega) q hq4 _ (pageOf_length _ (by show 1 ≤ _; omega))), (wrote_wl _ _ _ _ (by omega))⟩
            case measure => (simp [intOf] <;> omega)
          · have hdd : st.dead = false := by rw [inv.dead]; simp; omega
            have f1 : decide (m ≤ o) = false := by simp; omega
            have f2 : (((o : Int) + 1) == (m : Int)) = false := by rw [beq_eq_false_iff_ne]; omega
            have f3 : decide ((m : Int) ≤ (o : Int) + 1) = false := by simp; omega
            have f4 : decide (m ≤ o + 1) = false := by simp; omega
            have WR := fun W (hA : At w W B g 4 st (wr.heap.size :: [])) sl (q : Nat) (hq : q < 4) => Write_at hA q (.slice (some ⟨wr.heap.size, 0, none⟩) 1 1) 1 [UInt8.ofNat k] sl hq (by show 1 ≤ _; omega) hdd (by omega)
            rw [inv.code (by omega)] at WR
            rw [if_neg (by omega)] at WR
            have WR' := Lib.hid WR
            clear WR
            go_wp2_with fail
            refine (WZ.out wr).mono ?_
            rintro e ww ⟨rfl, rfl⟩
            go_wp2_with fail
            refine (WQ.out wr).mono ?_
            rintro e ww ⟨rfl, rfl⟩
            have hAn := hA.alloc (.cells #[.int .u8 (k : Int)] 5)
            have sl1 := sl_byte wr k (by omega)
            go_wp2_with fail
            refine (WR'.out _ hAn sl1 q hq4).mono ?_
            rintro e w5 ⟨rfl, hA', -⟩
            replace hA' := hA'.sub (Y := []) (by simp)
            have DE := Dead_at hA'
            rw [show (st.wrote q (pageOf [UInt8.ofNat k])).dead = false from (inv.wrote (by omega) q hq4 _ (pageOf_length _ (by show 1 ≤ _; omega))).dead.trans (by simp; omega)] at DE
            have DE' := Lib.hid DE
            have bel5 := hA'.bel
            clear DE
            go_wp2_with fail
            refine DE'.out.mono ?_
            rintro e ww ⟨rfl, rfl⟩
            go_wp2_with fail
            go_roundw
            case rel => exact ⟨k + 1, (o + 1), (st.wrote q (pageOf [UInt8.ofNat k])), by omega, by go_num, by go_num, hA', (inv.wrote (by omega) q hq4 _ (pageOf_length _ (by show 1 ≤ _; omega))), (wrote_wl _ _ _ _ (by omega))⟩
            case measure => (simp [intOf] <;> omega)
      · rw [hz3] at WZ
        replace WZ := Lib.hid WZ
        clear hz3
        by_cases hd : o = m
        · obtain rfl : o = m := by omega
          have hdd : st.dead = true := by rw [inv.dead]; simp
          have f1 : decide (o ≤ o) = true := by simp
          have SY := Sync_at hA
          rw [show st.syncCode = 15 by unfold DS.syncCode; rw [if_pos hdd], show st.sync = st by unfold DS.sync; rw [if_pos hdd]] at SY
          have SY' := Lib.hid SY
          clear SY
          go_wp2_with fail
          refine (WZ.out wr).mono ?_
          rintro e ww ⟨rfl, rfl⟩
          go_wp2_with fail
          refine SY'.out.mono ?_
          rintro e w5 ⟨rfl, hA', -⟩
          have DE := Dead_at hA'
          rw [show st.dead = true from hdd] at DE
          have DE' := Lib.hid DE
          have bel5 := hA'.bel
          clear DE
          go_wp2_with fail
          refine DE'.out.mono ?_
          rintro e ww ⟨rfl, rfl⟩
          go_wp2_with fail
          go_roundw
          case rel => exact ⟨k + 1, o, st, by omega, by go_num, by go_num, hA', inv, (by omega)⟩
          case measure => (simp [intOf] <;> omega)
        · by_cases hl : o + 1 = m
          · have hdd : st.dead = false := by rw [inv.dead]; simp; omega
            have f1 : decide (m ≤ o) = false := by simp; omega
            have f2 : (((o : Int) + 1) == (m : Int)) = true := by simp; omega
            have f3 : decide ((m : Int) ≤ (o : Int) + 1) = true := by simp; omega
            have f4 : decide (m ≤ o + 1) = true := by simp; omega
            have SY := Sync_at hA
            rw [show st.syncCode = st.code by unfold DS.syncCode; rw [if_neg (by simp [hdd])], inv.code (by omega), if_pos (by omega)] at SY
            have SY' := Lib.hid SY
            clear SY
            go_wp2_with fail
            refine (WZ.out wr).mono ?_
            rintro e ww ⟨rfl, rfl⟩
            go_wp2_with fail
            refine SY'.out.mono ?_
            rintro e w5 ⟨rfl, hA', -⟩
            have DE := Dead_at hA'
            rw [show st.sync.dead = true from (inv.sync (by omega)).dead.trans (by simp; omega)] at DE
            have DE' := Lib.hid DE
            have bel5 := hA'.bel
            clear DE
            have hc5 := hcw.out w5 bel5
            go_wp2_with fail
            refine (WZ.out w5).mono ?_
            rintro e ww ⟨rfl, rfl⟩
            go_wp2_with fail
            refine DE'.out.mono ?_
            rintro e ww ⟨rfl, rfl⟩
            go_wp2_with fail
            go_roundw
            case rel => exact ⟨k + 1, (o + 1), st.sync, by omega, by go_num, by go_num, hA', (inv.sync (by omega)), (sync_wl _ _ (by omega))⟩
            case measure => (simp [intOf] <;> omega)
          · have hdd : st.dead = false := by rw [inv.dead]; simp; omega
            have f1 : decide (m ≤ o) = false := by simp; omega
            have f2 : (((o : Int) + 1) == (m : Int)) = false := by rw [beq_eq_false_iff_ne]; omega
            have f3 : decide ((m : Int) ≤ (o : Int) + 1) = false := by simp; omega
            have f4 : decide (m ≤ o + 1) = false := by simp; omega
            have SY := Sync_at hA
            rw [show st.syncCode = st.code by unfold DS.syncCode; rw [if_neg (by simp [hdd])], inv.code (by omega), if_neg (by omega)] at SY
            have SY' := Lib.hid SY
            clear SY
            go_wp2_with fail
            refine (WZ.out wr).mono ?_
            rintro e ww ⟨rfl, rfl⟩
            go_wp2_with fail
            refine SY'.out.mono ?_
            rintro e w5 ⟨rfl, hA', -⟩
            have DE := Dead_at hA'
            rw [show st.sync.dead = false from (inv.sync (by omega)).dead.trans (by simp; omega)] at DE
            have DE' := Lib.hid DE
            have bel5 := hA'.bel
            clear DE
            go_wp2_with fail
            refine DE'.out.mono ?_
            rintro e ww ⟨rfl, rfl⟩
            go_wp2_with fail
            go_roundw
            case rel => exact ⟨k + 1, (o + 1), st.sync, by omega, by go_num, by go_num, hA', (inv.sync (by omega)), (sync_wl _ _ (by omega))⟩
            case measure => (simp [intOf] <;> omega)
      · rw [hz3] at WZ
        replace WZ := Lib.hid WZ
        clear hz3
        by_cases hd : o = m
        · obtain rfl : o = m := by omega
          have hdd : st.dead = true := by rw [inv.dead]; simp
          have f1 : decide (o ≤ o) = true := by simp
          have WR := Lib.hid (DD_no hA 9 0 none 0 (by omega) hdd)
          go_wp2_with fail
          refine (WZ.out wr).mono ?_
          rintro e ww ⟨rfl, rfl⟩
          go_wp2_with fail
          refine WR.out.mono ?_
          rintro e w5 ⟨rfl, rfl⟩
          have hA' := hA
          have DE := Dead_at hA'
          rw [show st.dead = true from hdd] at DE
          have DE' := Lib.hid DE
          have bel5 := hA'.bel
          clear DE
          go_wp2_with fail
          refine DE'.out.mono ?_
          rintro e ww ⟨rfl, rfl⟩
          go_wp2_with fail
          go_roundw
          case rel => exact ⟨k + 1, o, st, by omega, by go_num, by go_num, hA', inv, (by omega)⟩
          case measure => (simp [intOf] <;> omega)
        · have hdd : st.dead = false := by rw [inv.dead]; simp; omega
          have f1 : decide (m ≤ o) = false := by simp; omega
          have f2 : ((o : Int) == (m : Int)) = false := by rw [beq_eq_false_iff_ne]; omega
          have WR := Write_no hA 9 0 none 0 (by omega) (by unfold DS.checked; rw [hdd, if_neg (by simp), if_pos (by omega)]; omega)
          rw [show st.checked 4 9 ((0 : Nat) : Int) = 1 by unfold DS.checked; rw [hdd, if_neg (by simp), if_pos (by omega)]] at WR
          replace WR := Lib.hid WR
          go_wp2_with fail
          refine (WZ.out wr).mono ?_
          rintro e ww ⟨rfl, rfl⟩
          go_wp2_with fail
          refine WR.out.mono ?_
          rintro e w5 ⟨rfl, rfl⟩
          have hA' := hA
          have DE := Dead_at hA'
          rw [show st.dead = false from hdd] at DE
          have DE' := Lib.hid DE
          have bel5 := hA'.bel
          clear DE
          go_wp2_with fail
          refine DE'.out.mono ?_
          rintro e ww ⟨rfl, rfl⟩
          go_wp2_with fail
          go_roundw
          case rel => exact ⟨k + 1, o, st, by omega, by go_num, by go_num, hA', inv, (by omega)⟩
          case measure => (simp [intOf] <;> omega)
    · -- the end
      have CR := Lib.hid (Crash_at hA none 0 [] inv.fine (by omega) Sl.nil (by simp) (by simp))
      have hcd : (st.crash []).dead = false := rfl
      have hcl : (st.crash []).left = 0 := rfl
      have hcw : (st.crash []).writes.length ≤ 1000000 := Nat.zero_le _
      generalize st.crash [] = s9 at *
      have DE := fun W X (h : At w W B g 4 s9 X) => Dead_at h
      rw [hcd] at DE
      have WR := fun W X (h : At w W B g 4 s9 X) => Write_at h 0 (.slice none 0 0) 0 [] Sl.nil (by omega) (by simp) hcd hcw
      rw [code_ok _ hcl] at WR
      have SY := fun W X (h : At w W B g 4 (s9.wrote 0 (pageOf [])) X) => Sync_at h
      rw [syncCode_ok _ (wrote_left _ _ _ hcl hcd) (wrote_dead _ _ _ hcl hcd)] at SY
      replace DE := Lib.hid DE
      replace WR := Lib.hid WR
      replace SY := Lib.hid SY
      clear hks hzs inv hwl hcd hcl hcw
      by_cases h1 : k < ks.length
      · have h2 : ¬ k < 25 := fun h => hlt ⟨h1, h⟩
        have h2' : decide ((k : Int) < 25) = false := by simp; omega
        clear hlt
        go_wp2_with fail
        refine CR.out.mono ?_
        rintro e w5 ⟨rfl, hA5, -⟩
        go_wp2_with fail
        refine (DE.out w5 _ hA5).mono ?_
        rintro e ww ⟨rfl, rfl⟩
        go_wp2_with fail
        refine (WR.out w5 _ hA5).mono ?_
        rintro e w6 ⟨rfl, hA6, -⟩
        go_wp2_with fail
        refine (SY.out w6 _ hA6).mono ?_
        rintro e w7 ⟨rfl, hA7, -⟩
        have bel := hA7.bel
        go_wp2_with fail
        go_ret
        exact ⟨rfl, bel⟩
      · have h1' : decide (k < ks.length) = false := by simpa using h1
        clear hlt
        go_wp2_with fail
        refine CR.out.mono ?_
        rintro e w5 ⟨rfl, hA5, -⟩
        go_wp2_with fail
        refine (DE.out w5 _ hA5).mono ?_
        rintro e ww ⟨rfl, rfl⟩
        go_wp2_with fail
        refine (WR.out w5 _ hA5).mono ?_
        rintro e w6 ⟨rfl, hA6, -⟩
        go_wp2_with fail
        refine (SY.out w6 _ hA6).mono ?_
        rintro e w7 ⟨rfl, hA7, -⟩
        have bel := hA7.bel
        go_wp2_with fail
        go_ret
        exact ⟨rfl, bel⟩
end Go.Proofs.Ytemhlnjnbccpgaa
