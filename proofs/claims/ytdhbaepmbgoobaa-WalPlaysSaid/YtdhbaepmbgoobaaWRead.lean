/- The pages from 1 on, read when they are needed first: lazy. -/
import Derived.Test.YtdhbaepmbgoobaaWCutW
import Derived.Test.YtdhbaepmbgoobaaOnce
import Derived.Test.YtdhbaepmbgoobaaAt8
namespace Go.Proofs.Ytdhbaepmbgoobaa
open Go.RowKit
set_option linter.unusedVariables false
set_option maxRecDepth 10000
set_option linter.unusedSimpArgs false
set_option linter.unnecessarySimpa false

theorem cellW {L : List Nat} {a w : World} (h : Turns L a w) {p : Addr} {v : Value} (hc : a.cell? p = some v) (hp : p.block ∉ L := by simp) : w.cell? p = some v :=
  (World.cell?_of_block (h.block p.block (World.block_lt_of_cell? a p hc) hp)).trans hc
theorem own_wL {L : List Nat} {w w' : World} {base : Nat} {e : TypeId} {size n : Nat} {v : Value} {xs : List Value} (h : w.ownsRow base e size v n xs) (t : Turns L w w') (hn : ∀ x ∈ L, v.ownBlock ≠ some x) : w'.ownsRow base e size v n xs := by
  obtain ⟨h1, h2⟩ := h
  refine ⟨h1, ?_⟩
  rcases h2 with h2 | ⟨g, cap, cur, hv, hg, hh, r⟩
  · exact Or.inl h2
  · refine Or.inr ⟨g, cap, cur, hv, hg, ?_, r⟩
    rw [t.block g (Array.getElem?_eq_some_iff.1 hh).1 (fun hm => hn g hm (by rw [hv]; rfl))]
    exact hh
def LZ (g : Nat) (f m : Int) (v : Value) (e : Int) : List Value := [.pointer (some ⟨g, 0, none⟩), .int .u32 f, .int .i32 m, .int .u32 0, v, .int .i64 e]
theorem body_take (st : DS) (p k : Nat) (hl : st.now.length = p * 64) (hk : k < p) (h1 : 1 ≤ k) : st.body.take (k * 64) = st.body.take ((k - 1) * 64) ++ pageAt st.now k := by
  unfold DS.body pageAt
  have e : k * 64 = (k - 1) * 64 + 64 := by omega
  rw [e, List.take_add, List.drop_drop]
  congr 3
  omega
theorem body_len (st : DS) (p : Nat) (hl : st.now.length = p * 64) : st.body.length = (p - 1) * 64 := by
  unfold DS.body
  rw [List.length_drop]
  omega
/-- What reading them leaves. -/
structure LRead (w : World) (gl g : Nat) (st : DS) (f m : Int) (w' : World) : Prop where
  turns : Turns [gl] w w'
  gone : st.dead = true → Blk w' gl (LZ g f m (.slice none 0 0) 15) 116
  here : st.dead = false → ∃ v, Blk w' gl (LZ g f m v 0) 116 ∧ w'.ownsRow w.heap.size 5 1 v st.body.length (bvs st.body)

set_option maxRecDepth 100000 in
set_option maxHeartbeats 4000000 in
theorem lread_any (w : World) (B : Nat) (D : DL) (p : Nat) (st : DS) (h : DiskIs w B D p st) (gl : Nat) (f m : Int) (hb : Blk w gl (LZ D.g f m (.slice none 0 0) 0) 116) (hg : gl ∉ D.all) :
    Calls Try.prog 66 #[.pointer (some ⟨gl, 0, none⟩)] w fun e w' => e = .returned (.tuple #[]) ∧ LRead w gl D.g st f m w' := by
  have hp := h.pages
  have hgl := hb.lt
  have HD := Lib.hid h
  have c0 := hb.cell 0
  simp only [LZ, List.getElem?_cons_zero] at c0
  have xp : (1 : Int) < (p : Int) := by omega
  cases hd : st.dead
  · have hlen := body_len st p h.lenN
    have hst := body_take st p
    have HB := Lib.hid (And.intro hb (And.intro hlen hst))
    have hln := h.lenN
    clear hb h hlen hst c0
    go_enter Try.func66, Try.ntmps66
    go_wp2_with fail
    go_loopw [2] (fun i wr => ∃ (k : Nat) (A : Option Addr) (c : Nat), 1 ≤ k ∧ k ≤ p ∧ i = .int .i64 k ∧ Blk wr gl (LZ D.g f m (.slice A ((k - 1) * 64) c) 0) 116 ∧ wr.ownsRow w.heap.size 5 1 (.slice A ((k - 1) * 64) c) ((k - 1) * 64) (bvs (st.body.take ((k - 1) * 64))) ∧ Turns [gl] w wr) (fun i _ => p - (intOf i).toNat)
    case atStart => exact ⟨1, none, 0, by omega, by omega, rfl, HB.out.1, by simpa [bvs] using World.ownsRow_nil _ _ _ _, Turns.refl _ _⟩
    case round =>
      obtain ⟨k, A, c, hk1, hkp, rfl, bl, o0, tg⟩ := hrel
      have dk := HD.out.turns tg (by intro x hx; simp at hx; subst hx; exact hg)
      have PG := Lib.hid (Pages_any wr B D p st dk)
      have c0 := bl.cell 0
      have c4 := bl.cell 4
      simp only [LZ, List.getElem?_cons_zero, List.getElem?_cons_succ] at c0 c4
      have hwr := tg.size
      by_cases hlt : k < p
      · have xk : (k : Int) < (p : Int) := by omega
        have RD := Lib.hid (Read_any wr B D p k st dk hlt hd)
        have H1 := Lib.hid (And.intro bl (And.intro o0 tg))
        clear bl o0 tg dk
        go_wp2_with fail
        refine PG.out.mono ?_
        rintro e ww ⟨rfl, rfl⟩
        go_wp2_with fail
        refine RD.out.mono ?_
        rintro e y1 ⟨v1, rfl, o1, bel⟩
        have t1 := Turns.of_below (L := []) bel
        have bl := H1.out.1.turns t1 (by simp)
        have o0 := own_wL H1.out.2.1 t1 (by simp)
        have tg := H1.out.2.2.trans t1 (by simp)
        have c0 := bl.cell 0
        have c4 := bl.cell 4
        have f4 := bl.free 4
        simp only [LZ, List.getElem?_cons_zero, List.getElem?_cons_succ] at c0 c4
        obtain ⟨A1, c1, rfl⟩ := own_formV o1
        obtain ⟨v2, y2, hr2, ap⟩ := run_append_rd (P := Try.prog) _ T8 34 o0 (Sl.of_own o1) (bvs_one _) (by simp only [maxLen]; omega) (by omega) tg.size
        have ebt := HB.out.2.2 k hln hlt hk1
        have eo : y2.ownsRow w.heap.size 5 1 v2 ((k - 1) * 64 + 64) (bvs (st.body.take (k * 64))) := by
          rw [ebt, bvs_append]; exact ap.own
        rw [show (k - 1) * 64 + 64 = k * 64 by omega] at eo
        obtain ⟨A2, c2, rfl⟩ := own_formV eo
        have hbk : ∀ x ∈ (Value.slice A ((k - 1) * 64) c).ownBlock.toList, w.heap.size ≤ x := by intro x hx; exact (o0.lt x (by simpa using hx)).1
        have t2 : Turns (Value.slice A ((k - 1) * 64) c).ownBlock.toList y1 y2 := Turns.of_grown ap.grown (by intro x hx; exact .inl (by simpa using hx))
        have bl2 := bl.turns t2 (by intro hx; have := hbk _ hx; omega)
        have bl3 := bl2.set 4 (.slice A2 (k * 64) c2)
        have ts := Turns.setCell (L := [gl]) (p := ⟨gl, 4, none⟩) (Turns.refl [gl] y2) (.inl (by simp)) (.slice A2 (k * 64) c2)
        have q4 := bl2.cell 4
        have g4 := bl2.free 4
        simp only [LZ, List.getElem?_cons_zero, List.getElem?_cons_succ] at q4
        simp only [LZ, List.set_cons_succ, List.set_cons_zero] at bl3
        have o3 := own_wL eo ts (by intro x hx; simp at hx; subst hx; intro e; have := (eo.lt _ e).1; omega)
        have t3 := (tg.trans t2 (by intro x hx; exact .inr (hbk x hx))).trans ts (by intro x hx; exact .inl hx)
        have HF := Lib.hid (And.intro bl3 (And.intro o3 t3))
        clear bl3 ts o3 t3 t2 hbk eo ebt bl2 ap bl o0 tg o1 t1 bel RD H1 PG
        go_wp2_with (at_builtin; refine wpList_append_at rfl (.tmp 36) (.tmp 37) rfl hr2 rfl rfl ?_)
        go_roundw
        case rel => exact ⟨k + 1, A2, c2, by omega, by omega, by go_num, by rw [Nat.add_sub_cancel]; exact HF.out.1, by rw [Nat.add_sub_cancel]; exact HF.out.2.1, HF.out.2.2⟩
        case measure => (simp [intOf] <;> omega)
      · obtain rfl : k = p := by omega
        have HF := Lib.hid (And.intro bl (And.intro o0 tg))
        clear bl o0 tg dk
        go_wp2_with fail
        refine PG.out.mono ?_
        rintro e ww ⟨rfl, rfl⟩
        go_wp2_with fail
        go_end0
        refine ⟨rfl, HF.out.2.2, fun h => (by rw [hd] at h; cases h), fun _ => ⟨.slice A ((k - 1) * 64) c, HF.out.1, ?_⟩⟩
        have := HF.out.2.1
        rw [← HB.out.2.1, List.take_length] at this
        rw [HB.out.2.1] at this ⊢
        exact this
  · have PG := Lib.hid (Pages_any w B D p st h)
    have RD := Read_bad w B D p 1 st h (by unfold DS.checked; rw [if_pos hd]; decide)
    have hc : st.checked p 1 0 = 15 := by unfold DS.checked; rw [if_pos hd]
    rw [hc] at RD
    replace RD := Lib.hid RD
    have c4 := hb.cell 4
    have f4 := hb.free 4
    have c5 := hb.cell 5
    have f5 := hb.free 5
    simp only [LZ, List.getElem?_cons_zero, List.getElem?_cons_succ] at c4 c5
    have b1 := (hb.set 4 (.slice none 0 0)).set 5 (.int .i64 15)
    simp only [LZ, List.set_cons_succ, List.set_cons_zero] at b1
    have t1 := ((Turns.refl [gl] w).setCell (p := ⟨gl, 4, none⟩) (.inl (by simp)) (.slice none 0 0)).setCell (p := ⟨gl, 5, none⟩) (.inl (by simp)) (.int .i64 15)
    have HF := Lib.hid (And.intro b1 t1)
    clear b1 t1 hb h hc
    go_enter Try.func66, Try.ntmps66
    go_wp2_with fail
    go_loopw [2] (fun i wr => i = .int .i64 1 ∧ w = wr) (fun i _ => 1)
    case atStart => exact ⟨rfl, rfl⟩
    case round =>
      obtain ⟨rfl, rfl⟩ := hrel
      go_wp2_with fail
      refine PG.out.mono ?_
      rintro e ww ⟨rfl, rfl⟩
      go_wp2_with fail
      refine RD.out.mono ?_
      rintro e ww ⟨rfl, rfl⟩
      go_wp2_with fail
      first | go_end0 | (simp only [Exit.inBlock, Exit.then]; refine bodyPost_ret (results_none rfl _ _ _) rfl ?_) | refine bodyPost_ret (results_none rfl _ _ _) rfl ?_
      exact ⟨rfl, HF.out.2, fun _ => HF.out.1, fun h => (by rw [hd] at h; cases h)⟩
end Go.Proofs.Ytdhbaepmbgoobaa
