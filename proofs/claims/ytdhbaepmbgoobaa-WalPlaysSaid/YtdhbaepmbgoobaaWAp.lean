/- A record is laid behind: Append; how many records there are: Count. -/
import Derived.Test.YtdhbaepmbgoobaaWPg
import Derived.Test.YtdhbaepmbgoobaaWr
namespace Go.Proofs.Ytdhbaepmbgoobaa
open Go.RowKit
set_option linter.unusedVariables false
set_option maxRecDepth 10000
set_option linter.unusedSimpArgs false
set_option linter.unnecessarySimpa false

theorem Count_any (w : World) (gl g : Nat) (sz ct : Int) (hb : Blk w gl (LG g sz ct) 86) :
    Calls Try.prog 15 #[.pointer (some ⟨gl, 0, none⟩)] w fun e w' => e = .returned (.int .i64 ct) ∧ w = w' := by
  have LD := Lib.hid (IntLoad_any ⟨gl, 2, none⟩ ct w (by have := hb.cell 2; simpa [LG] using this))
  clear hb
  go_enter Try.func15, Try.ntmps15
  go_wp2_with fail
  refine LD.out.mono ?_
  rintro e ww ⟨rfl, rfl⟩
  go_wp2_with fail
  go_ret
  exact ⟨rfl, rfl⟩
theorem IntAdd1_any (a : Addr) (n : Int) (w : World) (hc : w.cell? a = some (.int .i64 n)) (hz : w.frozen? a = false) (h0 : 0 ≤ n) (h1 : n ≤ 9223372036854775806) :
    Calls Try.prog 37 #[.pointer (some a), .int .i64 1] w fun e w' => e = .returned (.int .i64 (n + 1)) ∧ w' = w.setCell a (.int .i64 (n + 1)) := by
  have hs : (Op.intArith .add .i64 n 1).run Try.prog w = .ok (.int .i64 (n + 1)) w := by
    have : IntKind.i64.wrap (n + 1) = n + 1 := by rw [IntKind.wrap_i64]; omega
    simp only [go_sem]
    rw [this]
    rfl
  have hadd := run_call_add (P := Try.prog) Try.func62 (by kernel_rfl) (by kernel_rfl) (by kernel_rfl) .i64 (by kernel_rfl) hc hz hs
  go_enter Try.func37, Try.ntmps37
  go_wp2
  go_ret
  exact ⟨rfl, rfl⟩
/-- The bytes of page 0. -/
def headB (size ct : Nat) : List UInt8 := le8 size ++ le8 ct
theorem headB_len (size ct : Nat) : (headB size ct).length = 16 := by unfold headB; rw [List.length_append, le8_length, le8_length]
/-- What Append leaves, and says. -/
def DS.append (st : DS) (size ct : Nat) (bs : List UInt8) : DS × Int :=
  if (st.pages size (recBytes bs)).2 = 0 then
    if (st.pages size (recBytes bs)).1.code = 0 then
      (((st.pages size (recBytes bs)).1.wrote 0 (pageOf (headB (size + 8 + bs.length) (ct + 1)))).sync, ((st.pages size (recBytes bs)).1.wrote 0 (pageOf (headB (size + 8 + bs.length) (ct + 1)))).syncCode)
    else ((st.pages size (recBytes bs)).1.wrote 0 (pageOf (headB (size + 8 + bs.length) (ct + 1))), 15)
  else ((st.pages size (recBytes bs)).1, (st.pages size (recBytes bs)).2)
theorem wchunks_alive : ∀ (m : Nat) (st : DS) (k : Nat) (b : List UInt8), st.dead = false → (wchunks m st k b).2 = 0 → (wchunks m st k b).1.dead = false ∧ (wchunks m st k b).1.writes.length ≤ st.writes.length + m
  | 0, st, k, b, hd, h => ⟨hd, by simp [wchunks]⟩
  | m + 1, st, k, b, hd, h => by
    rw [wchunks] at h ⊢
    split
    · exact ⟨hd, by simp⟩
    · rename_i hb
      rw [if_neg hb] at h
      split
      · rename_i hc
        rw [if_pos hc] at h
        have := wchunks_alive m _ _ _ (wrote_alive st k _ hd hc) h
        rw [wrote_wl] at this
        exact ⟨this.1, by omega⟩
      · rename_i hc
        rw [if_neg hc] at h
        exact absurd h hc
theorem sync_alive (st : DS) (hd : st.dead = false) (h : st.syncCode = 0) : st.sync.dead = false ∧ st.sync.writes = [] := by
  unfold DS.syncCode at h
  rw [if_neg (by simp [hd])] at h
  unfold DS.code at h
  by_cases hl : st.left = 1
  · rw [if_pos hl] at h; cases h
  · unfold DS.sync
    rw [if_neg (by simp [hd]), if_neg hl]
    unfold DS.clear DS.kept DS.counted
    simp [hd, hl]
theorem pages_alive (st : DS) (size : Nat) (b : List UInt8) (hd : st.dead = false) (h : (st.pages size b).2 = 0) : (st.pages size b).1.dead = false ∧ (st.pages size b).1.writes = [] := by
  unfold DS.pages at h ⊢
  split
  · rename_i hc
    rw [if_pos hc] at h
    exact sync_alive _ (wchunks_alive _ _ _ _ hd hc).1 h
  · rename_i hc
    rw [if_neg hc] at h
    exact absurd h hc
theorem pages_two (st : DS) (size : Nat) (b : List UInt8) (hd : st.dead = false) : (st.pages size b).2 = 0 ∨ (st.pages size b).2 = 15 := by
  have h : ∀ (m : Nat) (st : DS) (k : Nat) (b : List UInt8), (wchunks m st k b).2 = 0 ∨ (wchunks m st k b).2 = 15 := by
    intro m
    induction m with
    | zero => intro st k b; left; rfl
    | succ m ih =>
      intro st k b
      rw [wchunks]
      split
      · left; rfl
      · split
        · exact ih _ _ _
        · exact code_two st
  unfold DS.pages
  split
  · show DS.syncCode _ = 0 ∨ DS.syncCode _ = 15
    unfold DS.syncCode
    split
    · right; rfl
    · exact code_two _
  · exact h _ _ _ _
/-- What Append leaves: the disk, the log's numbers, the other kept blocks. -/
structure Apped (w0 w : World) (B g p : Nat) (st : DS) (gl : Nat) (Y : List Nat) (size ct : Nat) (bs : List UInt8) (e : Ending) (w' : World) : Prop where
  code : e = .returned (.int .i64 (st.append size ct bs).2)
  at_ : At w0 w' B g p (st.append size ct bs).1 (gl :: Y)
  same : Same Y w w'
  log : Blk w' gl (if (st.append size ct bs).2 = 0 then LG g ((size + 8 + bs.length : Nat) : Int) ((ct + 1 : Nat) : Int) else LG g size ct) 86
theorem syncCode_two (st : DS) : st.syncCode = 0 ∨ st.syncCode = 15 := by
  unfold DS.syncCode
  split
  · right; rfl
  · exact code_two st

theorem append_no (st s1 : DS) (c : Int) (size ct : Nat) (bs : List UInt8) (h : st.pages size (recBytes bs) = (s1, c)) (hc : c ≠ 0) : st.append size ct bs = (s1, c) := by
  unfold DS.append; rw [h, if_neg hc]
theorem append_mid (st s1 : DS) (size ct : Nat) (bs : List UInt8) (h : st.pages size (recBytes bs) = (s1, 0)) (hc : s1.code ≠ 0) : st.append size ct bs = (s1.wrote 0 (pageOf (headB (size + 8 + bs.length) (ct + 1))), 15) := by
  unfold DS.append; rw [h, if_pos rfl, if_neg hc]
theorem append_end (st s1 : DS) (size ct : Nat) (bs : List UInt8) (h : st.pages size (recBytes bs) = (s1, 0)) (hc : s1.code = 0) : st.append size ct bs = ((s1.wrote 0 (pageOf (headB (size + 8 + bs.length) (ct + 1)))).sync, (s1.wrote 0 (pageOf (headB (size + 8 + bs.length) (ct + 1)))).syncCode) := by
  unfold DS.append; rw [h, if_pos rfl, if_pos hc]

set_option maxRecDepth 100000 in
set_option maxHeartbeats 8000000 in
theorem Append_any {w0 w : World} {B g p : Nat} {st : DS} {gl : Nat} {Y : List Nat} (h : At w0 w B g p st (gl :: Y)) (hg : gl ∉ Y) (size ct : Nat) (hb : Blk w gl (LG g size ct) 86)
    (A : Option Addr) (c : Nat) (bs : List UInt8) (hs : Sl w w.heap.size 1 (.slice A bs.length c) bs.length (bvs bs)) (hd : st.dead = false) (hlen : bs.length ≤ 65536) (hroom : size + 8 + bs.length ≤ (p - 1) * 64) (hct : ct ≤ 1000000) (hwl : st.writes.length ≤ 900000) :
    Calls Try.prog 14 #[.pointer (some ⟨gl, 0, none⟩), .slice A bs.length c] w (Apped w0 w B g p st gl Y size ct bs) := by
  have hp := h.pages
  have LD := Lib.hid (IntLoad_any ⟨gl, 1, none⟩ size w (by have := hb.cell 1; simpa [LG] using this))
  have PG := Lib.hid (Pages_at h)
  have c0 := hb.cell 0
  simp only [LG, List.getElem?_cons_zero] at c0
  have CI := Lib.hid (CInt (bs.length : Int) (Mine.nil (Turns.refl [] w)) (by simp))
  have hmf : ∀ (fn : Fn) (first cap : Array Value) (w : World), (Instr.makeFunc fn first cap).run Try.prog w = .ok (.func fn first cap) w := fun _ _ _ _ => rfl
  obtain ⟨rm, hrm⟩ : ∃ rm : Nat, rm = (p - 1) * 64 := ⟨_, rfl⟩
  have hrI : ((p : Int) - 1) * 64 = rm := by omega
  have hrb : size + 8 + bs.length ≤ rm ∧ rm ≤ 300000 := by omega
  have H0 := Lib.hid (And.intro h (And.intro hb (And.intro hs trivial)))
  have HRI := Lib.hid hrI
  have h65 : (bs.length : Int) ≤ 65536 := by omega
  have hfr : (bs.length : Int) + 8 ≤ ((p : Int) - 1) * 64 - (size : Int) := by omega
  have hpb : (p : Int) ≤ 4096 ∧ 2 ≤ (p : Int) := by omega
  have HG := Lib.hid hg
  have HD := Lib.hid hd
  have HRM := Lib.hid (And.intro hroom hwl)
  clear h hb hs hrm hrI hg hd hroom hwl
  go_enter Try.func14, Try.ntmps14
  go_wp2_with fail
  refine PG.out.mono ?_
  rintro e ww ⟨rfl, rfl⟩
  go_wp2_with fail
  refine LD.out.mono ?_
  rintro e ww ⟨rfl, rfl⟩
  clear PG LD
  go_wp2_with fail
  refine CI.out.mono ?_
  rintro e x1 ⟨v1, rfl, m1, t1⟩
  rw [List.nil_append] at m1
  have a1 := H0.out.1.turn t1 (by simp)
  have sm1 := H0.out.1.same t1
  have hs1 := (t1.slice H0.out.2.2.1 (Nat.le_refl _) (by simp)).more t1.size
  obtain ⟨A1, c1, rfl⟩ := own_formV m1.own
  have CT := Lib.hid (Cat2_any x1 _ _ _ _ m1.sl hs1 (by rw [le8_length]; omega))
  have H1 := Lib.hid (And.intro a1 sm1)
  clear m1 t1 a1 sm1 hs1 CI
  go_wp2_with fail
  refine CT.out.mono ?_
  rintro e x2 ⟨v2, rfl, o2, bel2⟩
  have hrl := recBytes_len bs
  rw [show le8 (bs.length : Int) ++ bs = recBytes bs from rfl] at o2
  obtain ⟨y, cy, rfl, _, _, hy3, hy4, _⟩ := own_cells o2 (by omega)
  have t2 := Turns.of_below (L := []) bel2
  have a2 := H1.out.1.more t2 hy3 hy4
  have sm2 := H1.out.2.trans (H1.out.1.same t2)
  have bl2 := sm2.blk (x := gl) (by simp) H0.out.2.1
  have PGS := Lib.hid (pages_any a2 gl size ct (by simp) bl2 (some ⟨y, 0, none⟩) cy (recBytes bs) (Sl.of_own o2) (fun x hx => by simp [Value.ownBlock] at hx; subst hx; simp) HD.out (by omega) (by omega) HRM.out.2)
  have H2 := Lib.hid sm2
  clear o2 bel2 t2 a2 sm2 bl2 CT hrl hy3 hy4
  go_wp2_with fail
  refine PGS.out.mono ?_
  rintro e x3 ⟨rfl, a3, sm3⟩
  have hal := pages_alive st size (recBytes bs) HD.out
  have h2 := pages_two st size (recBytes bs) HD.out
  have k1 := append_no st
  have k2 := append_mid st
  have k3 := append_end st
  obtain ⟨⟨s1, c1'⟩, hP⟩ : ∃ P, P = st.pages size (recBytes bs) := ⟨_, rfl⟩
  rw [← hP] at a3 hal h2 ⊢
  simp only at a3 hal h2 ⊢
  have a3' := a3.sub (Y := gl :: Y) (fun z hz => List.mem_cons_of_mem _ hz)
  have sm3' := H2.out.trans (sm3.sub (fun z hz => List.mem_cons_of_mem _ hz))
  clear a3 sm3 PGS
  rcases h2 with rfl | rfl
  · have halv := hal rfl
    have k2 := k2 s1 size ct bs hP.symm
    have k3 := k3 s1 size ct bs hP.symm
    have bl3 := sm3'.blk (x := gl) (by simp) H0.out.2.1
    have c0 := bl3.cell 0
    simp only [LG, List.getElem?_cons_zero] at c0
    have CI := Lib.hid (CInt ((size : Int) + 8 + (bs.length : Int)) (Mine.nil (Turns.refl [] x3)) (by simp))
    have HK := Lib.hid (And.intro k2 k3)
    have H3 := Lib.hid (And.intro a3' sm3')
    have HL := Lib.hid halv
    clear hal k1 k2 k3 hP a3' sm3' bl3 halv
    go_wp2_with fail
    refine CI.out.mono ?_
    rintro e x4 ⟨v4, rfl, m4, t4⟩
    rw [List.nil_append, show (size : Int) + 8 + (bs.length : Int) = ((size + 8 + bs.length : Nat) : Int) by omega] at m4
    have a4 := H3.out.1.turn t4 (by simp)
    have sm4 := H3.out.2.trans (H3.out.1.same t4)
    have CO := Lib.hid (Count_any x4 gl g size ct (sm4.blk (x := gl) (by simp) H0.out.2.1))
    have CI2 := Lib.hid (CInt ((ct : Int) + 1) m4 (by rw [le8_length]; omega))
    have H4 := Lib.hid (And.intro a4 sm4)
    clear m4 t4 a4 sm4 CI
    go_wp2_with fail
    refine CO.out.mono ?_
    rintro e ww ⟨rfl, rfl⟩
    go_wp2_with fail
    refine CI2.out.mono ?_
    rintro e x5 ⟨v5, rfl, m5, t5⟩
    rw [show (ct : Int) + 1 = ((ct + 1 : Nat) : Int) by omega, show le8 ((size + 8 + bs.length : Nat) : Int) ++ le8 ((ct + 1 : Nat) : Int) = headB (size + 8 + bs.length) (ct + 1) from rfl] at m5
    have a5 := H4.out.1.turn t5 (by simp)
    have sm5 := H4.out.2.trans (H4.out.1.same t5)
    have WR := Write_at a5 0 v5 _ (headB (size + 8 + bs.length) (ct + 1)) m5.sl (by omega) (by rw [headB_len]; omega) HL.out.1 (by rw [HL.out.2]; simp)
    have hal := wrote_alive s1 0 (pageOf (headB (size + 8 + bs.length) (ct + 1))) HL.out.1
    obtain ⟨s2, hs2⟩ : ∃ s2, s2 = s1.wrote 0 (pageOf (headB (size + 8 + bs.length) (ct + 1))) := ⟨_, rfl⟩
    have hk := HK.out
    rw [← hs2] at hk hal WR
    obtain ⟨cd, hcd⟩ : ∃ cd, cd = s1.code := ⟨_, rfl⟩
    have hc2 := code_two s1
    rw [← hcd] at hk hal WR hc2
    replace WR := Lib.hid WR
    have H5 := Lib.hid sm5
    have HK5 := Lib.hid (And.intro hk hal)
    clear m5 t5 a5 sm5 CO CI2 hs2 hcd hk hal HL
    go_wp2_with fail
    refine WR.out.mono ?_
    rintro e x6 ⟨rfl, a6, sm6⟩
    have sm6' := H5.out.trans sm6
    rcases hc2 with rfl | rfl
    · have SY := Sync_at a6
      have hk := HK5.out.1.2 rfl
      have h2 := syncCode_two s2
      obtain ⟨cs, hcs⟩ : ∃ cs, cs = s2.syncCode := ⟨_, rfl⟩
      rw [← hcs] at SY hk h2
      replace SY := Lib.hid SY
      have bl6 := sm6'.blk (x := gl) (by simp) H0.out.2.1
      have c0 := bl6.cell 0
      simp only [LG, List.getElem?_cons_zero] at c0
      have HK6 := Lib.hid hk
      have H6 := Lib.hid sm6'
      clear hk sm6' sm6 a6 bl6 hcs WR
      go_wp2_with fail
      refine SY.out.mono ?_
      rintro e x7 ⟨rfl, a7, sm7⟩
      have sm7' := H6.out.trans sm7
      have bl7 := sm7'.blk (x := gl) (by simp) H0.out.2.1
      rcases h2 with rfl | rfl
      · obtain ⟨y1, hy1⟩ : ∃ y1, y1 = x7.setCell ⟨gl, 1, none⟩ (.int .i64 ((size : Int) + 8 + (bs.length : Int))) := ⟨_, rfl⟩
        have T1 : Turns [gl] x7 y1 := by rw [hy1]; exact (Turns.refl _ _).setCell (p := ⟨gl, 1, none⟩) (.inl (by simp)) _
        have B1 := bl7.set 1 (.int .i64 ((size : Int) + 8 + (bs.length : Int)))
        simp only [LG, List.set_cons_succ, List.set_cons_zero] at B1
        rw [← hy1] at B1
        obtain ⟨y2, hy2⟩ : ∃ y2, y2 = y1.setCell ⟨gl, 2, none⟩ (.int .i64 ((ct : Int) + 1)) := ⟨_, rfl⟩
        have T2 : Turns [gl] x7 y2 := by rw [hy2]; exact T1.setCell (p := ⟨gl, 2, none⟩) (.inl (by simp)) _
        have B2 := B1.set 2 (.int .i64 ((ct : Int) + 1))
        simp only [List.set_cons_succ, List.set_cons_zero] at B2
        rw [← hy2] at B2
        have ST := Lib.hid (IntStore_any ⟨gl, 1, none⟩ (.int .i64 size) ((size : Int) + 8 + (bs.length : Int)) x7 (by have := bl7.cell 1; simpa [LG] using this) (bl7.free 1))
        have AD := Lib.hid (IntAdd1_any ⟨gl, 2, none⟩ ct y1 (by have := B1.cell 2; simpa using this) (B1.free 2) (by omega) (by omega))
        have HF := Lib.hid (And.intro (a7.turn T2 (by simp)) (And.intro B2 (show Same Y w y2 from (sm7'.sub (fun z hz => List.mem_cons_of_mem _ hz)).trans (fun z hz => T2.block z (a7.side z (List.mem_cons_of_mem _ hz)).2 (by intro hm; simp at hm; subst hm; exact HG.out hz)))))
        have HY := Lib.hid (And.intro hy1 hy2)
        clear hy1 hy2 T1 T2 B1 B2 a7 sm7 sm7' bl7 SY
        go_wp2_with fail
        refine ST.out.mono ?_
        rintro e z1 ⟨rfl, hz1⟩
        rw [← HY.out.1] at hz1
        subst hz1
        go_wp2_with fail
        refine AD.out.mono ?_
        rintro e z2 ⟨rfl, hz2⟩
        rw [← HY.out.2] at hz2
        subst hz2
        go_wp2_with fail
        go_ret
        refine ⟨by rw [HK6.out]; rfl, by rw [HK6.out]; exact HF.out.1, HF.out.2.2, ?_⟩
        rw [HK6.out, if_pos rfl]
        have := HF.out.2.1
        rw [show (size : Int) + 8 + (bs.length : Int) = ((size + 8 + bs.length : Nat) : Int) by omega, show (ct : Int) + 1 = ((ct + 1 : Nat) : Int) by omega] at this
        exact this
      · have HF := Lib.hid (And.intro a7 (And.intro bl7 (sm7'.sub (fun z hz => List.mem_cons_of_mem _ hz))))
        clear a7 bl7 sm7 sm7' SY
        go_wp2_with fail
        go_ret
        refine ⟨by rw [HK6.out]; rfl, by rw [HK6.out]; exact HF.out.1, HF.out.2.2, ?_⟩
        rw [HK6.out, if_neg (show ¬ ((15 : Int) = 0) by decide)]
        exact HF.out.2.1
    · have hk := HK5.out.1.1 (by decide)
      have HF := Lib.hid (And.intro a6 (And.intro (sm6'.blk (x := gl) (by simp) H0.out.2.1) (And.intro (sm6'.sub (fun z hz => List.mem_cons_of_mem _ hz)) hk)))
      clear a6 sm6 sm6' hk WR
      go_wp2_with fail
      go_ret
      refine ⟨by rw [HF.out.2.2.2]; rfl, by rw [HF.out.2.2.2]; exact HF.out.1, HF.out.2.2.1, ?_⟩
      rw [HF.out.2.2.2, if_neg (show ¬ ((15 : Int) = 0) by decide)]
      exact HF.out.2.1
  · have k1 := k1 s1 15 size ct bs hP.symm (by decide)
    have HF := Lib.hid (And.intro a3' (And.intro (sm3'.blk (x := gl) (by simp) H0.out.2.1) (And.intro (sm3'.sub (fun z hz => List.mem_cons_of_mem _ hz)) k1)))
    clear a3' sm3' hal k1 k2 k3 hP
    go_wp2_with fail
    go_ret
    refine ⟨by rw [HF.out.2.2.2]; rfl, by rw [HF.out.2.2.2]; exact HF.out.1, HF.out.2.2.1, ?_⟩
    rw [HF.out.2.2.2, if_neg (show ¬ ((15 : Int) = 0) by decide)]
    exact HF.out.2.1
end Go.Proofs.Ytdhbaepmbgoobaa
