/- A record is appended at both. Whatever is appended, wherever the power goes: WalPlays. -/
import Derived.Test.YtdhbaepmbgoobaaXG1
import Derived.Test.YtdhbaepmbgoobaaXG2
import Derived.Test.YtdhbaepmbgoobaaWLog
import Derived.Test.YtdhbaepmbgoobaaWKn
namespace Go.Proofs.Ytdhbaepmbgoobaa
open Go.RowKit
set_option linter.unusedVariables false
set_option maxRecDepth 10000
set_option linter.unusedSimpArgs false
set_option linter.unnecessarySimpa false

theorem RIs.same' {w w' : World} {B : Nat} {D : RL} {p : Nat} {st : DS} (h : RIs w B D p st) (s : Same D.all w w') : RIs w' B D p st := by
  refine ⟨s.blk (by simp [RL.all]) h.head, ?_, ?_, ?_, h.lenS, h.lenN, h.left0, h.pages, h.caps, h.ap1, h.ap2, h.low⟩
  · obtain ⟨tl, h1⟩ := h.now; exact ⟨tl, s.blk (by simp [RL.all]) h1⟩
  · obtain ⟨tl, h1⟩ := h.syn; exact ⟨tl, s.blk (by simp [RL.all]) h1⟩
  · obtain ⟨h1, h2⟩ := h.own
    refine ⟨h1, ?_⟩
    rcases h2 with h2 | ⟨g, cap, cur, hv, hg, hh, r⟩
    · exact Or.inl h2
    · exact Or.inr ⟨g, cap, cur, hv, hg, by rw [s g (by simp [RL.all, hv, Value.ownBlock])]; exact hh, r⟩
section
variable {w0 w w' : World} {g xg p : Nat} {st sx : DS} {gl : Nat} {Y : List Nat}
theorem Two.left0 (h : Two w0 w g xg p st sx Y) : 0 ≤ st.left ∧ st.left ≤ 9223372036854775807 := by
  obtain ⟨D, xd, B, Bx, _, _, h⟩ := h; exact h.d.left0
/-- As seen from the program's disk. -/
theorem TwoD.at_ {D : DL} {xd : RL} {B Bx : Nat} (h : TwoD w0 w D xd B Bx p st sx Y) : At w0 w B D.g p st (Y ++ xd.all) := by
  refine ⟨⟨D, rfl, h.d, fun x hx hm => ?_⟩, h.bel, h.lowB, fun x hx => ?_⟩
  · rcases List.mem_append.1 hx with hx | hx
    · exact (h.kept x hx).1 hm
    · exact h.ap x hm hx
  · rcases List.mem_append.1 hx with hx | hx
    · exact (h.kept x hx).2.2
    · exact ⟨Nat.le_trans h.lowX (h.x.lowAll x hx), h.x.lt x hx⟩
theorem At.two {B Bx : Nat} {xd : RL} {st' : DS} (a : At w0 w' B g p st' (Y ++ xd.all)) (hx : RIs w' Bx xd p sx) (hl : w0.heap.size ≤ Bx) (hd : ∀ y ∈ Y, y ∉ xd.all) : Two w0 w' g xd.g p st' sx Y := by
  obtain ⟨D, hg, hd', hn⟩ := a.ex
  exact ⟨D, xd, B, Bx, hg, rfl, hd', hx, fun y hy hm => hn y (List.mem_append_right _ hm) hy, a.low, hl, a.bel, fun y hy => ⟨hn y (List.mem_append_left _ hy), hd y hy, (a.side y (List.mem_append_left _ hy)).1, (a.side y (List.mem_append_left _ hy)).2⟩⟩
/-- What an append leaves and says, whatever there is. -/
def appR (st : DS) (p size ct : Nat) (bs : List UInt8) : DS × Int := if (p - 1) * 64 < size + 8 + bs.length then (st, 14) else if st.dead = true then (st, 15) else st.append size ct bs
structure TApped (w0 w : World) (g xg p : Nat) (st sx : DS) (gl : Nat) (Y : List Nat) (size ct : Nat) (bs : List UInt8) (e : Ending) (w' : World) : Prop where
  code : e = .returned (.int .i64 (appR st p size ct bs).2)
  two : Two w0 w' g xg p (appR st p size ct bs).1 sx (gl :: Y)
  same : Same Y w w'
  log : Blk w' gl (if (appR st p size ct bs).2 = 0 then LG g ((size + 8 + bs.length : Nat) : Int) ((ct + 1 : Nat) : Int) else LG g size ct) 86
theorem TApp (h : Two w0 w g xg p st sx (gl :: Y)) (hg : gl ∉ Y) (size ct : Nat) (hb : Blk w gl (LG g size ct) 86) (A : Option Addr) (c : Nat) (bs : List UInt8)
    (hs : Sl w w.heap.size 1 (.slice A bs.length c) bs.length (bvs bs)) (hlen : bs.length ≤ 120) (hsz : size ≤ (p - 1) * 64) (hct : ct ≤ 1000000) (hwl : st.writes.length ≤ 900000) :
    Calls Try.prog 14 #[.pointer (some ⟨gl, 0, none⟩), .slice A bs.length c] w (TApped w0 w g xg p st sx gl Y size ct bs) := by
  by_cases hf : (p - 1) * 64 < size + 8 + bs.length
  · have e : appR st p size ct bs = (st, 14) := by unfold appR; rw [if_pos hf]
    obtain ⟨D, xd, B, Bx, rfl, rfl, h⟩ := h
    refine (Append_full h.at_ gl size ct hb A c bs.length (by omega) hsz hf).mono fun e' w' ⟨he, hw⟩ => ?_
    subst hw
    exact ⟨by rw [e]; exact he, by rw [e]; exact ⟨D, xd, B, Bx, rfl, rfl, h⟩, fun x hx => rfl, by rw [e, if_neg (show ¬ ((14 : Int) = 0) by decide)]; exact hb⟩
  · by_cases hd : st.dead = true
    · have e : appR st p size ct bs = (st, 15) := by unfold appR; rw [if_neg hf, if_pos hd]
      have h0 := h
      obtain ⟨D, xd, B, Bx, rfl, rfl, h⟩ := h
      refine (Append_dead h.at_ gl size ct hb A c bs hs hd (by omega) (by omega)).mono fun e' w' ⟨he, ht⟩ => ?_
      exact ⟨by rw [e]; exact he, by rw [e]; exact h0.turn ht (by simp), (h0.same ht).sub (fun x hx => List.mem_cons_of_mem _ hx), by rw [e, if_neg (show ¬ ((15 : Int) = 0) by decide)]; exact hb.turns ht (by simp)⟩
    · have hd' : st.dead = false := by simpa using hd
      have e : appR st p size ct bs = st.append size ct bs := by unfold appR; rw [if_neg hf, if_neg hd]
      obtain ⟨D, xd, B, Bx, rfl, rfl, h⟩ := h
      have ha : At w0 w B D.g p st (gl :: (Y ++ xd.all)) := h.at_
      have hgn : gl ∉ Y ++ xd.all := fun hm => by
        rcases List.mem_append.1 hm with hm | hm
        · exact hg hm
        · exact (h.kept gl (by simp)).2.1 hm
      refine (Append_any ha hgn size ct hb A c bs hs hd' (by omega) (by omega) hct hwl).mono fun e' w' ho => ?_
      refine ⟨by rw [e]; exact ho.code, ?_, ho.same.sub (fun x hx => List.mem_append_left _ hx), by rw [e]; exact ho.log⟩
      rw [e]
      exact At.two (Y := gl :: Y) ho.at_ (h.x.same' (ho.same.sub (fun x hx => List.mem_append_right _ hx))) h.lowX (fun y hy => (h.kept y hy).2.1)
structure TRApped (w0 w : World) (g xg p : Nat) (st sx : DS) (gl : Nat) (Y : List Nat) (size ct : Nat) (bs : List UInt8) (e : Ending) (w' : World) : Prop where
  code : e = .returned (.int .i64 (appR sx p size ct bs).2)
  two : Two w0 w' g xg p st (appR sx p size ct bs).1 (gl :: Y)
  same : Same Y w w'
  log : Blk w' gl (if (appR sx p size ct bs).2 = 0 then XLG xg ((size + 8 + bs.length : Nat) : Int) ((ct + 1 : Nat) : Int) else XLG xg size ct) 79
theorem TRApp (h : Two w0 w g xg p st sx (gl :: Y)) (hg : gl ∉ Y) (size ct : Nat) (hb : Blk w gl (XLG xg size ct) 79) (A : Option Addr) (c : Nat) (bs : List UInt8)
    (hs : Sl w w.heap.size 1 (.slice A bs.length c) bs.length (bvs bs)) (hlen : bs.length ≤ 120) (hsz : size ≤ (p - 1) * 64) (hct : ct ≤ 1000000) (hwl : sx.writes.length ≤ 900000) :
    Calls Try.prog 28 #[.pointer (some ⟨gl, 0, none⟩), .slice A bs.length c] w (TRApped w0 w g xg p st sx gl Y size ct bs) := by
  by_cases hno : (p - 1) * 64 < size + 8 + bs.length ∨ sx.dead = true
  · have e : appR sx p size ct bs = (sx, if (p - 1) * 64 < size + 8 + bs.length then 14 else 15) := by
      unfold appR
      by_cases hf : (p - 1) * 64 < size + 8 + bs.length
      · rw [if_pos hf, if_pos hf]
      · rw [if_neg hf, if_neg hf, if_pos (by rcases hno with h | h; exact absurd h hf; exact h)]
    refine (RAppend_no h gl size ct hb A c bs.length (by omega) hsz hno).mono fun e' w' ⟨he, ht⟩ => ?_
    have hn0 : ¬ ((if (p - 1) * 64 < size + 8 + bs.length then (14 : Int) else 15) = 0) := by split <;> decide
    exact ⟨by rw [e]; exact he, by rw [e]; exact h.turn ht (by simp), (h.same ht).sub (fun x hx => List.mem_cons_of_mem _ hx), by rw [e, if_neg hn0]; exact hb.turns ht (by simp)⟩
  · have hf : ¬ (p - 1) * 64 < size + 8 + bs.length := fun h => hno (.inl h)
    have hd : ¬ sx.dead = true := fun h => hno (.inr h)
    have e : appR sx p size ct bs = sx.append size ct bs := by unfold appR; rw [if_neg hf, if_neg hd]
    refine (RAppend_any h hg size ct hb A c bs hs (by simpa using hd) (by omega) (by omega) hct hwl).mono fun e' w' ho => ?_
    exact ⟨by rw [e]; exact ho.code, by rw [e]; exact ho.two, ho.same, by rw [e]; exact ho.log⟩
end
theorem wrote_fine (st : DS) (p n : Nat) (pg : List UInt8) (hf : st.fine p) (hn : n < p) (hpg : pg.length = 64) : (st.wrote n pg).fine p := by
  intro x hx
  rw [show (st.wrote n pg).writes = st.writes ++ [(n, pg)] from rfl, List.mem_append] at hx
  rcases hx with hx | hx
  · exact hf x hx
  · simp at hx; subst hx; exact ⟨hn, hpg⟩
theorem sync_fine (st : DS) (p : Nat) (hf : st.fine p) : st.sync.fine p ∧ st.sync.writes.length ≤ st.writes.length := by
  unfold DS.sync
  split
  · exact ⟨hf, Nat.le_refl _⟩
  · split
    · exact ⟨hf, Nat.le_refl _⟩
    · exact ⟨fun x hx => (by simp [DS.clear] at hx), Nat.zero_le _⟩
/-- An append leaves a disk fine. -/
theorem append_fine (st : DS) (p size ct : Nat) (bs : List UInt8) (hf : st.fine p) (hl : st.now.length = p * 64) (hd : st.dead = false) (hp : 2 ≤ p) (hlen : bs.length ≤ 120) (hroom : size + 8 + bs.length ≤ (p - 1) * 64) :
    (st.append size ct bs).1.fine p ∧ (st.append size ct bs).1.writes.length ≤ st.writes.length + 10 := by
  have hpl := pageAt_length st.now (1 + size / 64) p hl (by omega)
  have hrl := recBytes_len bs
  obtain ⟨b0, hb0⟩ : ∃ b0, b0 = st.pagesB size (recBytes bs) := ⟨_, rfl⟩
  have hb0' := hb0
  unfold DS.pagesB at hb0'
  have hbl : b0.length = size % 64 + (8 + bs.length) := by rw [hb0', List.length_append, List.length_take, hpl, hrl]; omega
  have W := wchunks_out (a := 0) (o := st.now) (p := p) hl b0.length st (1 + size / 64) b0 (Nat.le_refl _) hd (by omega) (fun x hx => ⟨(hf x hx).1, (hf x hx).2, fun j _ h => (by omega)⟩) (Agree.refl _ _) (fun j _ h => (by omega)) (fun _ => Nat.zero_le _)
  have wl := wchunks_wl b0.length st (1 + size / 64) b0
  have pok := pages_ok st size (recBytes bs)
  have pno := pages_no st size (recBytes bs)
  rw [← hb0] at pok pno
  obtain ⟨⟨s1, c1⟩, hr⟩ : ∃ r, r = wchunks b0.length st (1 + size / 64) b0 := ⟨_, rfl⟩
  rw [← hr] at W wl pok pno
  have w1 : c1 = 0 ∨ c1 = 15 := W.two
  have w3 : s1.fine p := fun x hx => ⟨(W.wr x hx).1, (W.wr x hx).2.1⟩
  have hwl : s1.writes.length ≤ st.writes.length + 5 := by simp only at wl; omega
  have hh : (pageOf (headB (size + 8 + bs.length) (ct + 1))).length = 64 := pageOf_length _ (by rw [headB_len]; omega)
  rcases w1 with rfl | rfl
  · have hp1 := pok s1 rfl
    have sf := sync_fine s1 p w3
    by_cases hc : s1.syncCode = 0
    · rw [hc] at hp1
      have wf := wrote_fine s1.sync p 0 _ sf.1 (by omega) hh
      have wn := wrote_wl s1.sync 0 (pageOf (headB (size + 8 + bs.length) (ct + 1)))
      by_cases hc2 : s1.sync.code = 0
      · rw [append_end st s1.sync size ct bs hp1 hc2]
        have sf2 := sync_fine _ p wf
        exact ⟨sf2.1, by have := sf2.2; simp only; omega⟩
      · rw [append_mid st s1.sync size ct bs hp1 hc2]
        exact ⟨wf, by simp only; omega⟩
    · rw [append_no st s1.sync _ size ct bs hp1 hc]
      exact ⟨sf.1, by simp only; omega⟩
  · have hp1 := pno s1 15 (by decide) rfl
    rw [append_no st s1 15 size ct bs hp1 (by decide)]
    exact ⟨w3, by simp only; omega⟩
theorem appR_fine (st : DS) (p size ct : Nat) (bs : List UInt8) (hf : st.fine p) (hl : st.now.length = p * 64) (hp : 2 ≤ p) (hlen : bs.length ≤ 120) :
    (appR st p size ct bs).1.fine p ∧ (appR st p size ct bs).1.writes.length ≤ st.writes.length + 10 ∧ ((appR st p size ct bs).2 = 0 → size + 8 + bs.length ≤ (p - 1) * 64) := by
  unfold appR
  by_cases h1 : (p - 1) * 64 < size + 8 + bs.length
  · rw [if_pos h1]
    exact ⟨hf, by simp only; omega, fun h => (by simp at h)⟩
  · rw [if_neg h1]
    by_cases h2 : st.dead = true
    · rw [if_pos h2]
      exact ⟨hf, by simp only; omega, fun h => (by simp at h)⟩
    · rw [if_neg h2]
      have := append_fine st p size ct bs hf hl (by simpa using h2) hp hlen (by omega)
      exact ⟨this.1, this.2, fun _ => by omega⟩
end Go.Proofs.Ytdhbaepmbgoobaa
namespace Go.Proofs.Ytdhbaepmbgoobaa
open Go.RowKit
set_option linter.unusedVariables false
set_option linter.unusedSimpArgs false
set_option linter.unnecessarySimpa false

theorem good_nums (st : DS) (p : Nat) (hl : st.now.length = p * 64) (hp : 2 ≤ p ∧ p ≤ 4096) (hb : st.look.bad = false) : ∃ size ct : Nat, st.look.size = size ∧ st.look.count = ct ∧ st.size0 = size ∧ st.count0 = ct ∧ size ≤ (p - 1) * 64 ∧ ct ≤ 100000 := by
  have h2 := (scan_same st).2
  rw [hb] at h2
  simp at h2
  obtain ⟨h3, h4, h5, h6⟩ := h2
  have hbl := body_len st p hl
  have hs : st.look.size = st.size0 ∧ st.look.count = st.count0 := by unfold DS.look; split <;> exact ⟨rfl, rfl⟩
  have hc := (cutL_len st.body.length (st.body.take st.upto)).2
  rw [List.length_take] at hc
  have hsc : 8 * st.scan.length ≤ st.body.length := by unfold DS.scan; omega
  refine ⟨st.size0.toNat, st.scan.length, by rw [hs.1]; omega, by rw [hs.2]; exact h6, by omega, h6, by omega, by omega⟩
theorem TOpen {w0 w : World} {g xg p : Nat} {st sx : DS} {X : List Nat} (h : Two w0 w g xg p st sx X) : Calls Try.prog 13 #[.pointer (some ⟨g, 0, none⟩)] w (Opened w g st) := by
  obtain ⟨D, xd, B, Bx, rfl, rfl, h⟩ := h
  exact Open_any w B D p st h.d
theorem TROpen {w0 w : World} {g xg p : Nat} {st sx : DS} {X : List Nat} (h : Two w0 w g xg p st sx X) (hd : sx.dead = false) : Calls Try.prog 26 #[.pointer (some ⟨xg, 0, none⟩)] w fun e w' => Turns [] w w' ∧ (sx.look.bad = true → e = .returned (.tuple #[.pointer none, .slice none 0 0, .int .i64 10])) ∧
      (sx.look.bad = false → ∃ gl A n c, e = .returned (.tuple #[.pointer (some ⟨gl, 0, none⟩), .slice A n c, .int .i64 0]) ∧ Blk w' gl (XLG xg sx.size0 sx.count0) 79 ∧ w.heap.size ≤ gl ∧ SlsF w.heap.size w' (.slice A n c) n sx.scan) := by
  obtain ⟨D, xd, B, Bx, rfl, rfl, h⟩ := h
  exact ROpen_any w Bx xd p sx h.x hd
theorem TROpen_dead {w0 w : World} {g xg p : Nat} {st sx : DS} {X : List Nat} (h : Two w0 w g xg p st sx X) (hd : sx.dead = true) : Calls Try.prog 26 #[.pointer (some ⟨xg, 0, none⟩)] w fun e w' => e = .returned (.tuple #[.pointer none, .slice none 0 0, .int .i64 15]) ∧ w = w' := by
  obtain ⟨D, xd, B, Bx, rfl, rfl, h⟩ := h
  exact ROpen_dead w Bx xd p sx h.x hd
/-- Both logs are open, alike. -/
structure Logs (w0 wr : World) (g xg : Nat) (gA xA sz ct : Nat) (st : DS) (k : Nat) : Prop where
  two : Two w0 wr g xg 6 st st [gA, xA]
  ne : gA ≠ xA
  a : Blk wr gA (LG g sz ct) 86
  b : Blk wr xA (XLG xg sz ct) 79
  sz : sz ≤ 320
  ct : ct ≤ 100000 + k
  fine : st.fine 6
  wl : st.writes.length ≤ 10 * k
theorem Logs.turn {w0 w w' : World} {g xg gA xA sz ct k : Nat} {st : DS} (h : Logs w0 w g xg gA xA sz ct st k) (t : Turns [] w w') : Logs w0 w' g xg gA xA sz ct st k := ⟨h.two.turn t (by simp), h.ne, h.a.turns t (by simp), h.b.turns t (by simp), h.sz, h.ct, h.fine, h.wl⟩
/-- Opened again. -/
theorem Logs.open_ {w0 w w1 w2 : World} {g xg gl xl k : Nat} {st : DS} {X : List Nat} {e1 e2 : Int} (h : Two w0 w g xg 6 st st X) (hb : st.look.bad = false) (t1 : Turns [] w w1) (b1 : Blk w1 gl (LG g st.look.size st.look.count) 86) (h1 : w.heap.size ≤ gl)
    (t2 : Turns [] w1 w2) (b2 : Blk w2 xl (XLG xg st.size0 st.count0) 79) (h2 : w1.heap.size ≤ xl) (hf : st.fine 6) (hw : st.writes.length ≤ 10 * k) : ∃ sz ct, Logs w0 w2 g xg gl xl sz ct st k := by
  obtain ⟨sz, ct, e1, e2, e3, e4, h3, h4⟩ := good_nums st 6 h.lens.1 h.pages hb
  rw [e1, e2] at b1
  rw [e3, e4] at b2
  have tw1 := h.more t1 h1 b1.lt
  have tw2 := tw1.more t2 h2 b2.lt
  have hl := b1.lt
  refine ⟨sz, ct, tw2.sub (fun x hx => ?_), by omega, b1.turns t2 (by simp), b2, by omega, by omega, hf, hw⟩
  simp at hx
  rcases hx with rfl | rfl <;> simp
theorem ite_LG (g a b c d : Nat) (rc : Int) : (if rc = 0 then LG g ((a : Nat) : Int) ((b : Nat) : Int) else LG g c d) = LG g ((if rc = 0 then a else c : Nat) : Int) ((if rc = 0 then b else d : Nat) : Int) := by split <;> rfl
theorem ite_XLG (g a b c d : Nat) (rc : Int) : (if rc = 0 then XLG g ((a : Nat) : Int) ((b : Nat) : Int) else XLG g c d) = XLG g ((if rc = 0 then a else c : Nat) : Int) ((if rc = 0 then b else d : Nat) : Int) := by split <;> rfl
def PlR (w0 : World) (g xg m : Nat) (a b i : Value) (wr : World) : Prop := ∃ (k gA xA sz ct : Nat) (st : DS), k ≤ m ∧ i = .int .i64 k ∧ a = .pointer (some ⟨gA, 0, none⟩) ∧ b = .pointer (some ⟨xA, 0, none⟩) ∧ Logs w0 wr g xg gA xA sz ct st k

set_option maxRecDepth 100000 in
set_option maxHeartbeats 16000000 in
theorem WalPlays_walk (Al Aa : Option Addr) (nl cl ca : Nat) (ls : List (List UInt8)) (acts : List ActA) (w : World) (hl : Sls w w.heap.size (.slice Al nl cl) nl ls)
    (ha : Sl w w.heap.size 5 (.slice Aa acts.length ca) acts.length (acts.map ActA.cells).flatten) (hga : ∀ a ∈ acts, a.good w) :
    Calls Try.prog 9 #[.slice Al nl cl, .slice Aa acts.length ca] w fun e w' => e = .returned (.bool true) ∧ Below w.heap.size w w' := by
  have KN := Lib.hid (known_any w)
  have hcl : nl ≤ cl ∧ cl ≤ 9223372036854775807 := by
    obtain ⟨A, c, e, h1, h2⟩ := hl.form
    injection e with _ _ e3
    subst e3
    unfold maxLen at h2
    omega
  have HL := Lib.hid (And.intro hl (And.intro ha hga))
  clear hl ha hga
  go_enter Try.func9, Try.ntmps9
  go_wp2_with fail
  refine KN.out.mono ?_
  rintro e w1 ⟨rfl, t1⟩
  have H1 := Lib.hid (Turns.below (B := w.heap.size) t1 (Nat.le_refl _) (by simp))
  have FW := Lib.hid (Few_any w1 Aa ca acts ((t1.slice HL.out.2.1 (Nat.le_refl _) (by simp)).more t1.size) (fun a hm => by
    obtain ⟨q1, q2, q3, q4, q5, q6⟩ := HL.out.2.2 a hm
    exact ⟨q1, q2, q3, (t1.slice q4 (Nat.le_refl _) (by simp)).more t1.size, (t1.slice q5 (Nat.le_refl _) (by simp)).more t1.size, q6⟩))
  clear KN t1
  go_wp2_with fail
  refine FW.out.mono ?_
  rintro e ww ⟨rfl, b, rfl, hfew⟩
  clear FW
  cases b
  · go_wp2_with fail
    go_ret
    exact ⟨rfl, H1.out⟩
  by_cases h30 : 30 < nl
  · have h30I : (30 : Int) < nl := by omega
    go_wp2_with fail
    go_ret
    exact ⟨rfl, H1.out⟩
  have h30I : (nl : Int) ≤ 30 := by omega
  obtain ⟨h60, hsm⟩ := hfew rfl
  have h60I : (acts.length : Int) ≤ 60 := by omega
  have HSM := Lib.hid hsm
  clear hfew hsm
  go_wp2_with fail
  refine (New_at (w0 := w) (w := w1) 6 (by omega) (by omega) H1.out).mono ?_
  rintro e w2 ⟨B, g, rfl, a2, b2⟩
  have TN := Lib.hid (TNew a2)
  clear a2 b2
  go_wp2_with fail
  refine TN.out.mono ?_
  rintro e w3 ⟨xg, rfl, two3⟩
  have OP := Lib.hid (TOpen two3)
  have H3 := Lib.hid two3
  clear TN two3
  have hlk := (img_fresh 6 (by omega)).look (st := fresh 6) (by omega)
  go_wp2_with fail
  refine OP.out.mono ?_
  rintro e w4 op4
  obtain ⟨gA0, A4, n4, c4, rfl, ba4, hg4, _⟩ := op4.good rfl (by rw [hlk])
  have t4 := op4.turns
  have RO := Lib.hid (TROpen (H3.out.turn t4 (by simp)) rfl)
  have H4 := Lib.hid (And.intro t4 (And.intro ba4 hg4))
  have HLK := Lib.hid hlk
  clear op4 t4 ba4 hg4 OP hlk
  go_wp2_with fail
  refine RO.out.mono ?_
  rintro e w5 ⟨t5, _, hgood⟩
  obtain ⟨xA0, A5, n5, c5, rfl, bb5, hg5, _⟩ := hgood (by rw [HLK.out])
  obtain ⟨sz0, ct0, lg0⟩ := Logs.open_ (e1 := 0) (e2 := 0) (k := 0) H3.out (by rw [HLK.out]) H4.out.1 H4.out.2.1 H4.out.2.2 t5 bb5 hg5 (fun x hx => by simp [fresh] at hx) (by simp [fresh])
  have H5 := Lib.hid lg0
  clear t5 hgood bb5 hg5 lg0 RO
  go_wp2_with fail
  go_loopw [9, 12, 15] (fun a b i wr => PlR w g xg 60 a b i wr) (fun _ _ i _ => 61 - (intOf i).toNat)
  case atStart => exact ⟨0, gA0, xA0, sz0, ct0, fresh 6, by omega, rfl, rfl, rfl, H5.out⟩
  case round =>
    obtain ⟨k, gA, xA, sz, ct, st, hk60, rfl, rfl, rfl, lg⟩ := hrel
    obtain ⟨V, hV⟩ : ∃ V, V = wr := ⟨_, rfl⟩
    subst hV
    have LGH := Lib.hid lg
    clear lg
    by_cases hkl : k < nl
    · have hklI : (k : Int) < nl := by omega
      by_cases hka : k < acts.length
      · have hkaI : (k : Int) < acts.length := by omega
        obtain ⟨ba, oa, e1, hba, hca⟩ := acts_get HL.out.2.1 hka
        subst e1
        obtain ⟨ac, hac⟩ : ∃ ac, ac = acts[k] := ⟨_, rfl⟩
        rw [← hac] at hca
        have hgd := HL.out.2.2 _ (List.getElem_mem hka)
        have hsml := HSM.out _ (List.getElem_mem hka)
        rw [← hac] at hgd hsml
        obtain ⟨vB, hvB⟩ : ∃ v, v = Value.slice ac.AB ac.bs.length ac.cB := ⟨_, rfl⟩
        obtain ⟨vP, hvP⟩ : ∃ v, v = Value.slice ac.AP ac.ps.length ac.cP := ⟨_, rfl⟩
        obtain ⟨cs, hcs⟩ : ∃ cs, cs = ac.cells := ⟨_, rfl⟩
        have hcs2 : cs = AC ac.kd ac.P ac.N vB vP := by rw [hcs, hvB, hvP]; rfl
        rw [← hcs] at hca
        have hrange : V.rangeAt ba (oa + k * 5) cs := by
          intro j v hv
          have h1 := hca j v hv
          rw [show oa + (k * 5 + j) = oa + k * 5 + j by omega] at h1
          exact (LGH.out.two.bel.cell (p := ⟨ba, oa + k * 5 + j, none⟩) hba).trans h1
        have h5c : cs.length = 5 := by rw [hcs]; rfl
        have hon : ∀ u ∈ cs, u.oneCell' = true := by
          rw [hcs]
          intro u hu
          simp [ActA.cells, AC] at hu
          rcases hu with rfl | rfl | rfl | rfl | rfl <;> rfl
        have hszw : (Try.prog.info? 76).map (·.size) = some cs.length := by rw [h5c]; kernel_rfl
        obtain ⟨Z, hZs, hz⟩ : ∃ Z : Array Value, Z.size = 5 ∧ ∀ w, (zeroValue 76).run Try.prog w = .ok (.agg Z) w :=
          ⟨#[.int .i64 0, .int .i64 0, .int .i64 0, .slice none 0 0, .slice none 0 0], rfl, fun w => by kernel_rfl⟩
        have hZ0 : ¬ Z = #[] := by intro e; rw [e] at hZs; simp at hZs
        obtain ⟨W3, hst, hB3, t3⟩ := store_var (P := Try.prog) V Z 76 cs (by rw [h5c, hZs]) hon
        obtain ⟨q, hq⟩ : ∃ q, q = V.heap.size := ⟨_, rfl⟩
        rw [hcs2, ← hq] at hB3
        have W9 := Lib.hid fun (kd : Int) (h : -9223372036854775808 ≤ kd ∧ kd ≤ 9223372036854775807) (W : World) => within_any kd 9 W h.1 h.2 (by omega) (by omega)
        have HAC := Lib.hid (And.intro hgd (And.intro hsml (And.intro hvB hvP)))
        have two3 := LGH.out.two.more t3 (by omega : V.heap.size ≤ q) hB3.lt
        have HLG3 := Lib.hid (And.intro (LGH.out.turn t3) (And.intro two3 hB3))
        have HQ := Lib.hid hq
        have hqA : gA ≠ q ∧ xA ≠ q := ⟨by have := LGH.out.a.lt; omega, by have := LGH.out.b.lt; omega⟩
        have q0 := hB3.cell 0
        have q2 := hB3.cell 2
        have f0 := hB3.free 0
        simp only [AC, List.getElem?_cons_zero, List.getElem?_cons_succ] at q0 q2
        have hkdb := hgd.1
        have hNb := hgd.2.2.1
        clear hca hac hgd hsml hvB hvP hcs hcs2 hon hB3 t3 two3 hq hba
        go_upto_region 14 with (first
          | (refine wpList_load_mid rfl 76 (.tmp 72) rfl ba (oa + k * 5) rfl _ _ hrange Try.underlying76 rfl hszw ?_)
          | fail)
        rw [← HQ.out]
        clear hrange hszw hst hz hZs hZ0 h5c
        go_wp2_with fail
        refine (W9.out ac.kd hkdb W3).mono ?_
        rintro e ww ⟨rfl, rfl⟩
        obtain ⟨k9, hk9⟩ : ∃ k9, k9 = ac.kd % 9 := ⟨_, rfl⟩
        rw [← hk9]
        have hk9b : 0 ≤ k9 ∧ k9 ≤ 8 := by omega
        obtain ⟨n3, hn3⟩ : ∃ n3, n3 = ac.N.tmod 3 := ⟨_, rfl⟩
        have hcase : (k9 < 6 ∨ (¬ k9 < 6 ∧ k9 = 8 ∧ 0 < n3)) ∨ (k9 = 6 ∨ k9 = 7 ∨ (k9 = 8 ∧ ¬ 0 < n3)) := by omega
        have HK9 := Lib.hid hk9
        have HN3 := Lib.hid hn3
        clear hk9
        rcases hcase with hcase | hcase
        · -- it stops
          obtain ⟨W4, hW4⟩ : ∃ W4, W4 = W3.setCell ⟨q, 0, none⟩ (.int .i64 6) := ⟨_, rfl⟩
          have t4 : Turns [q] W3 W4 := by rw [hW4]; exact (Turns.refl [q] W3).setCell (p := ⟨q, 0, none⟩) (.inl (by simp)) _
          have b4 := HLG3.out.2.2.set 0 (.int .i64 6)
          simp only [AC, List.set_cons_zero] at b4
          rw [← hW4] at b4
          have twq := HLG3.out.2.1.turn t4 (by simp)
          have lgq : Logs w W4 g xg gA xA sz ct st k := ⟨twq.sub (fun x hx => List.mem_cons_of_mem _ hx), HLG3.out.1.ne, HLG3.out.1.a.turns t4 (by simpa using hqA.1), HLG3.out.1.b.turns t4 (by simpa using hqA.2), HLG3.out.1.sz, HLG3.out.1.ct, HLG3.out.1.fine, HLG3.out.1.wl⟩
          have HW4 := Lib.hid hW4
          have HB4 := Lib.hid (And.intro b4 (And.intro twq lgq))
          clear hW4 t4 b4 twq lgq
          rcases hcase with h1 | ⟨h0, h1, h2⟩
          case' inr => subst h1
          all_goals
            rw [hn3] at *
            go_upto_region 17 with fail
            rw [← HW4.out]
            have bqU := HB4.out.1
            have hr4 := bqU.range 0 5
            rw [List.drop_zero, List.take_of_length_le (by simp)] at hr4
            have hsz4 : (Try.prog.info? 76).map (·.size) = some ([.int .i64 6, .int .i64 ac.P, .int .i64 ac.N, vB, vP] : List Value).length := by kernel_rfl
            have DOc := Do_any HB4.out.2.1 6 ac.P ac.N ac.AB ac.AP 0 ac.cB 0 ac.cP ac.bs ac.ps (.inl rfl) ⟨by omega, by omega⟩ HAC.out.1.2.1 HAC.out.1.2.2.1 HAC.out.1.2.2.2.1 HAC.out.1.2.2.2.2.1 HAC.out.1.2.2.2.2.2 HAC.out.2.1.1 HAC.out.2.1.2 LGH.out.fine (by have := LGH.out.wl; omega)
            rw [← HAC.out.2.2.1, ← HAC.out.2.2.2] at DOc
            have DOc := Lib.hid DOc
            go_wp2_with (first
              | (refine wpList_load_mid rfl 76 (.tmp 16) rfl q 0 rfl _ _ hr4 Try.underlying76 rfl hsz4 ?_)
              | fail)
            refine DOc.out.mono ?_
            rintro e y1 ⟨rfl, st1, tw1, sm1, fn1, wl1, lf1⟩
            have bq1 := sm1.blk (x := q) (by simp) bqU
            have q0b := bq1.cell 0
            simp only [List.getElem?_cons_zero] at q0b
            have hw8 := LGH.out.wl
            have lg1 : Logs w y1 g xg gA xA sz ct st1 k := ⟨tw1.sub (fun x hx => List.mem_cons_of_mem _ hx), LGH.out.ne, sm1.blk (x := gA) (by simp) HB4.out.2.2.a, sm1.blk (x := xA) (by simp) HB4.out.2.2.b, LGH.out.sz, LGH.out.ct, fn1, by omega⟩
            have LG1 := Lib.hid lg1
            clear lg1 hw8 tw1 sm1 fn1 wl1 lf1 bq1 hr4 hsz4 DOc bqU
            go_wp2_with fail
            refine (W9.out 6 ⟨by omega, by omega⟩ y1).mono ?_
            rintro e ww ⟨rfl, rfl⟩
            clear W9
            obtain ⟨b5, o5, c5l, n5l, A5l, l5, ⟨c5', hv5, _⟩, hb5, hd5, hl5, hn5, hs5w⟩ := HL.out.1.get hkl
            injection hv5 with e5 _ e6
            subst e5 e6
            have hc5 := (LG1.out.two.bel.cell (p := ⟨b5, o5 + k, none⟩) hb5).trans hd5
            have hn5b : n5l ≤ 9223372036854775807 := by
              obtain ⟨_, _, _, ee, h1, h2, _⟩ := hs5w
              injection ee with _ _ e3
              subst e3
              unfold maxLen at h2
              omega
            by_cases h120 : 120 < n5l
            · have h120I : (120 : Int) < n5l := by omega
              have HF := Lib.hid LG1.out.two.bel
              clear hs5w hl5 hd5
              go_wp2_with fail
              go_ret
              exact ⟨rfl, HF.out⟩
            · have h120I : (n5l : Int) ≤ 120 := by omega
              obtain rfl : l5.length = n5l := hn5
              obtain ⟨V2, hV2⟩ : ∃ V2, V2 = y1.drew := ⟨_, rfl⟩
              have t2 : Turns [] y1 V2 := by rw [hV2]; exact (Turns.refl _ _).drew
              have lg2 := LG1.out.turn t2
              have hsl := lg2.two.argD hs5w
              obtain ⟨v6, V6, hr6, o6, t6⟩ := run_fresh_copy V2 hsl (Nat.le_refl _) (by omega) 34
              obtain ⟨A6, c6, rfl⟩ := own_formV o6
              have lg6 := lg2.turn t6
              have e2 := cellW t2 hc5
              have e2a := cellW ((Turns.refl [] V2).alloc (.cells #[] 5)) e2
              have e6 := cellW t6 e2
              have hszl := lg6.sz
              have hctl := lg6.ct
              have HWL := Lib.hid lg6.wl
              have AP := Lib.hid (TApp lg6.two (by simp; exact lg6.ne) sz ct lg6.a A6 c6 l5 (Sl.of_own o6) (by omega) (by omega) (by omega) (by have := lg6.wl; omega))
              have HB6 := Lib.hid lg6.b
              have HNE := Lib.hid lg6.ne
              have HFN := appR_fine st1 6 sz ct l5 lg6.fine lg6.two.lens.1 (by omega) (by omega)
              obtain ⟨⟨sA, rc⟩, hrc⟩ : ∃ r, r = appR st1 6 sz ct l5 := ⟨_, rfl⟩
              rw [← hrc] at HFN
              have HFN := Lib.hid HFN
              have AP2 := AP.out
              have HRC := Lib.hid hrc
              have HV2 := Lib.hid hV2
              clear hl5 hV2 t2 lg2 hsl o6 t6 lg6 hrc AP2
              go_upto_region 30 with fail
              refine reg_begin (fun W => W.cell? ⟨b5, o5 + k, none⟩ = some (.slice A5l l5.length c5l)) (fun _ => True) 24 24 #[false, false, false, false, false, false, false, false, false, false, false, false, false, false, false, false, false, false, false, false, false, false, false, false] (by kernel_rfl) (by kernel_rfl) (by kernel_rfl) ?_
              rw [← HV2.out]
              refine reg_take 0 128 23 #[true, false, false, false, false, false, false, false, false, false, false, false, false, false, false, false, false, false, false, false, false, false, false, false] (by rfl) (v := ?_) rfl rfl (by kernel_rfl) (by kernel_rfl) (by kernel_rfl) (by kernel_rfl) (fun _ _ _ h => h) (by rfl) ?_ (Till.mk' e2 trivial) ?_
              rotate_left
              · intro W hS; go_simp; all_goals with_reducible rfl
              try simp only [List.setIfInBounds_toArray, List.set_cons_succ, List.set_cons_zero]
              refine reg_take 2 130 22 #[true, false, true, false, false, false, false, false, false, false, false, false, false, false, false, false, false, false, false, false, false, false, false, false] (by rfl) (v := ?_) rfl rfl (by kernel_rfl) (by kernel_rfl) (by kernel_rfl) (by kernel_rfl) (fun _ _ _ h => h) (by rfl) ?_ (Till.mk' e2 trivial) ?_
              rotate_left
              · intro W hS; go_simp; all_goals with_reducible rfl
              try simp only [List.setIfInBounds_toArray, List.set_cons_succ, List.set_cons_zero]
              refine reg_take 3 131 21 #[true, false, true, true, false, false, false, false, false, false, false, false, false, false, false, false, false, false, false, false, false, false, false, false] (by rfl) (v := ?_) rfl rfl (by kernel_rfl) (by kernel_rfl) (by kernel_rfl) (by kernel_rfl) (fun _ _ _ h => h) (by rfl) ?_ (Till.mk' e2 trivial) ?_
              rotate_left
              · intro W hS; go_simp; all_goals with_reducible rfl
              try simp only [List.setIfInBounds_toArray, List.set_cons_succ, List.set_cons_zero]
              refine reg_take 4 132 20 #[true, false, true, true, true, false, false, false, false, false, false, false, false, false, false, false, false, false, false, false, false, false, false, false] (by rfl) (v := ?_) rfl rfl (by kernel_rfl) (by kernel_rfl) (by kernel_rfl) (by kernel_rfl) (fun _ _ _ h => h) (by rfl) ?_ (Till.mk' e2 trivial) ?_
              rotate_left
              · intro W hS; go_simp; all_goals with_reducible rfl
              try simp only [List.setIfInBounds_toArray, List.set_cons_succ, List.set_cons_zero]
              refine reg_take 5 133 19 #[true, false, true, true, true, true, false, false, false, false, false, false, false, false, false, false, false, false, false, false, false, false, false, false] (by rfl) (v := ?_) rfl rfl (by kernel_rfl) (by kernel_rfl) (by kernel_rfl) (by kernel_rfl) (fun _ _ _ h => h) (by rfl) ?_ (Till.mk' e2 trivial) ?_
              rotate_left
              · intro W hS; have c9 : W.cell? ⟨b5, o5 + k, none⟩ = some (.slice A5l l5.length c5l) := hS; go_simp; all_goals with_reducible rfl
              try simp only [List.setIfInBounds_toArray, List.set_cons_succ, List.set_cons_zero]
              refine reg_take 8 136 18 #[true, false, true, true, true, true, false, false, true, false, false, false, false, false, false, false, false, false, false, false, false, false, false, false] (by rfl) (v := ?_) rfl rfl (by kernel_rfl) (by kernel_rfl) (by kernel_rfl) (by kernel_rfl) (fun _ _ _ h => h) (by rfl) ?_ (Till.mk' e2 trivial) ?_
              rotate_left
              · intro W hS; go_simp; all_goals with_reducible rfl
              try simp only [List.setIfInBounds_toArray, List.set_cons_succ, List.set_cons_zero]
              refine reg_take 9 137 17 #[true, false, true, true, true, true, false, false, true, true, false, false, false, false, false, false, false, false, false, false, false, false, false, false] (by rfl) (v := ?_) rfl rfl (by kernel_rfl) (by kernel_rfl) (by kernel_rfl) (by kernel_rfl) (fun _ _ _ h => h) (by rfl) ?_ (Till.mk' e2 trivial) ?_
              rotate_left
              · intro W hS; go_simp; all_goals with_reducible rfl
              try simp only [List.setIfInBounds_toArray, List.set_cons_succ, List.set_cons_zero]
              refine reg_take 10 138 16 #[true, false, true, true, true, true, false, false, true, true, true, false, false, false, false, false, false, false, false, false, false, false, false, false] (by rfl) (v := ?_) rfl rfl (by kernel_rfl) (by kernel_rfl) (by kernel_rfl) (by kernel_rfl) (fun _ _ _ h => h) (by rfl) ?_ (Till.mk' e2 trivial) ?_
              rotate_left
              · intro W hS; go_simp; all_goals with_reducible rfl
              try simp only [List.setIfInBounds_toArray, List.set_cons_succ, List.set_cons_zero]
              refine reg_take 11 139 15 #[true, false, true, true, true, true, false, false, true, true, true, true, false, false, false, false, false, false, false, false, false, false, false, false] (by rfl) (v := ?_) rfl rfl (by kernel_rfl) (by kernel_rfl) (by kernel_rfl) (by kernel_rfl) (fun _ _ _ h => h) (by rfl) ?_ (Till.mk' e2 trivial) ?_
              rotate_left
              · intro W hS; go_simp; all_goals with_reducible rfl
              try simp only [List.setIfInBounds_toArray, List.set_cons_succ, List.set_cons_zero]
              refine reg_take 12 140 14 #[true, false, true, true, true, true, false, false, true, true, true, true, true, false, false, false, false, false, false, false, false, false, false, false] (by rfl) (v := ?_) rfl rfl (by kernel_rfl) (by kernel_rfl) (by kernel_rfl) (by kernel_rfl) (fun _ _ _ h => h) (by rfl) ?_ (Till.mk' e2 trivial) ?_
              rotate_left
              · intro W hS; have c9 : W.cell? ⟨b5, o5 + k, none⟩ = some (.slice A5l l5.length c5l) := hS; go_simp; all_goals with_reducible rfl
              try simp only [List.setIfInBounds_toArray, List.set_cons_succ, List.set_cons_zero]
              refine reg_one 1 13 #[true, true, true, true, true, true, false, false, true, true, true, true, true, false, false, false, false, false, false, false, false, false, false, false] (by kernel_rfl) rfl (by rfl) (by kernel_rfl) (fun K hK => ?_)
              go_simp
              refine hK _ _ (Till.mk' e2a trivial) ?_
              clear hK K
              try simp only [List.setIfInBounds_toArray, List.set_cons_succ, List.set_cons_zero]
              refine reg_one 6 12 #[true, true, true, true, true, true, true, false, true, true, true, true, true, false, false, false, false, false, false, false, false, false, false, false] (by kernel_rfl) rfl (by rfl) (by kernel_rfl) (fun K hK => ?_)
              refine wp_append_run (vs := .slice (some ⟨V2.heap.size, 0, none⟩) 0 0) (vx := .slice A5l l5.length c5l) (R := fun v w9 => .slice A6 l5.length c6 = v ∧ V6 = w9) _ (.tmp 129) (.tmp 133) rfl (by rfl) (by rfl) ⟨_, _, hr6, rfl, rfl⟩ ?_
              rintro _ _ ⟨rfl, rfl⟩
              refine hK _ _ (Till.mk' e6 trivial) ?_
              clear hK K
              try simp only [List.setIfInBounds_toArray, List.set_cons_succ, List.set_cons_zero]
              refine reg_one 7 11 #[true, true, true, true, true, true, true, true, true, true, true, true, true, false, false, false, false, false, false, false, false, false, false, false] (by kernel_rfl) rfl (by rfl) (by kernel_rfl) (fun K hK => ?_)
              go_simp
              refine AP.out.mono ?_
              rintro e y7 ⟨rfl, tw7, sm7, bl7⟩
              have e7 := (tw7.bel.cell (p := ⟨b5, o5 + k, none⟩) hb5).trans hd5
              have b7 := sm7.blk (x := xA) (by simp) HB6.out
              rw [← HRC.out] at tw7 bl7
              simp only at tw7 bl7
              refine hK _ _ (Till.mk' e7 trivial) ?_
              clear hK K
              try simp only [List.setIfInBounds_toArray, List.set_cons_succ, List.set_cons_zero]
              refine reg_one 13 10 #[true, true, true, true, true, true, true, true, true, true, true, true, true, true, false, false, false, false, false, false, false, false, false, false] (by kernel_rfl) rfl (by rfl) (by kernel_rfl) (fun K hK => ?_)
              go_simp
              have RP := TRApp (tw7.sub (Y := xA :: [gA]) (by intro x hx; simp at hx; rcases hx with rfl | rfl <;> simp)) (by simp; exact fun e => HNE.out e.symm) sz ct b7 A5l c5l l5 (tw7.argD hs5w) (by omega) (by omega) (by omega) (by have := HWL.out; omega)
              refine RP.mono ?_
              rintro e y8 ⟨rfl, tw8, sm8, bl8⟩
              have e8 := (tw8.bel.cell (p := ⟨b5, o5 + k, none⟩) hb5).trans hd5
              have b8 := sm8.blk (x := gA) (by simp) bl7
              rw [← HRC.out] at tw8 bl8 ⊢
              simp only at tw8 bl8 ⊢
              rw [ite_LG] at b8
              rw [ite_XLG] at bl8
              obtain ⟨szN, hsN⟩ : ∃ s : Nat, s = (if rc = 0 then sz + 8 + l5.length else sz) := ⟨_, rfl⟩
              obtain ⟨ctN, hcN⟩ : ∃ s : Nat, s = (if rc = 0 then ct + 1 else ct) := ⟨_, rfl⟩
              rw [← hsN, ← hcN] at b8 bl8
              have HNN := Lib.hid (And.intro hsN hcN)
              clear hsN hcN
              have n8 := bl8.cell 2
              simp only [XLG, List.getElem?_cons_zero, List.getElem?_cons_succ] at n8
              refine hK _ _ (Till.mk' e8 trivial) ?_
              clear hK K
              try simp only [List.setIfInBounds_toArray, List.set_cons_succ, List.set_cons_zero]
              refine reg_take 14 142 9 #[true, true, true, true, true, true, true, true, true, true, true, true, true, true, true, false, false, false, false, false, false, false, false, false] (by rfl) (v := ?_) rfl rfl (by kernel_rfl) (by kernel_rfl) (by kernel_rfl) (by kernel_rfl) (fun _ _ _ h => h) (by rfl) ?_ (Till.mk' e8 trivial) ?_
              rotate_left
              · intro W hS; go_simp; all_goals with_reducible rfl
              try simp only [List.setIfInBounds_toArray, List.set_cons_succ, List.set_cons_zero]
              refine reg_take 15 143 8 #[true, true, true, true, true, true, true, true, true, true, true, true, true, true, true, true, false, false, false, false, false, false, false, false] (by rfl) (v := ?_) rfl rfl (by kernel_rfl) (by kernel_rfl) (by kernel_rfl) (by kernel_rfl) (fun _ _ _ h => h) (by rfl) ?_ (Till.mk' e8 trivial) ?_
              rotate_left
              · intro W hS; go_simp; all_goals with_reducible rfl
              try simp only [List.setIfInBounds_toArray, List.set_cons_succ, List.set_cons_zero]
              refine reg_take 16 144 7 #[true, true, true, true, true, true, true, true, true, true, true, true, true, true, true, true, true, false, false, false, false, false, false, false] (by rfl) (v := ?_) rfl rfl (by kernel_rfl) (by kernel_rfl) (by kernel_rfl) (by kernel_rfl) (fun _ _ _ h => h) (by rfl) ?_ (Till.mk' e8 trivial) ?_
              rotate_left
              · intro W hS; go_simp; all_goals with_reducible rfl
              try simp only [List.setIfInBounds_toArray, List.set_cons_succ, List.set_cons_zero]
              refine reg_take 18 146 6 #[true, true, true, true, true, true, true, true, true, true, true, true, true, true, true, true, true, false, true, false, false, false, false, false] (by rfl) (v := ?_) rfl rfl (by kernel_rfl) (by kernel_rfl) (by kernel_rfl) (by kernel_rfl) (fun _ _ _ h => h) (by rfl) ?_ (Till.mk' e8 trivial) ?_
              rotate_left
              · intro W hS; go_simp; all_goals with_reducible rfl
              try simp only [List.setIfInBounds_toArray, List.set_cons_succ, List.set_cons_zero]
              refine reg_take 19 147 5 #[true, true, true, true, true, true, true, true, true, true, true, true, true, true, true, true, true, false, true, true, false, false, false, false] (by rfl) (v := ?_) rfl rfl (by kernel_rfl) (by kernel_rfl) (by kernel_rfl) (by kernel_rfl) (fun _ _ _ h => h) (by rfl) ?_ (Till.mk' e8 trivial) ?_
              rotate_left
              · intro W hS; go_simp; all_goals with_reducible rfl
              try simp only [List.setIfInBounds_toArray, List.set_cons_succ, List.set_cons_zero]
              refine reg_take 20 148 4 #[true, true, true, true, true, true, true, true, true, true, true, true, true, true, true, true, true, false, true, true, true, false, false, false] (by rfl) (v := ?_) rfl rfl (by kernel_rfl) (by kernel_rfl) (by kernel_rfl) (by kernel_rfl) (fun _ _ _ h => h) (by rfl) ?_ (Till.mk' e8 trivial) ?_
              rotate_left
              · intro W hS; go_simp; all_goals with_reducible rfl
              try simp only [List.setIfInBounds_toArray, List.set_cons_succ, List.set_cons_zero]
              refine reg_two 17 21 3 #[true, true, true, true, true, true, true, true, true, true, true, true, true, true, true, true, true, true, true, true, true, false, false, false] #[true, true, true, true, true, true, true, true, true, true, true, true, true, true, true, true, true, false, true, true, true, true, false, false] (by kernel_rfl) rfl rfl (by rfl) (by rfl) (by kernel_rfl) (by kernel_rfl) (fun K hK => ?_) (fun K hK => ?_)
              go_simp
              refine (Count_any y8 gA g _ _ b8).mono ?_
              rintro e ww ⟨rfl, rfl⟩
              refine hK _ _ (Till.mk' e8 trivial) ?_
              clear hK K
              try simp only [List.setIfInBounds_toArray, List.set_cons_succ, List.set_cons_zero]
              refine reg_one 21 2 #[true, true, true, true, true, true, true, true, true, true, true, true, true, true, true, true, true, true, true, true, true, true, false, false] (by kernel_rfl) rfl (by rfl) (by kernel_rfl) (fun K hK => ?_)
              go_simp
              refine hK _ _ (Till.mk' e8 trivial) ?_
              clear hK K
              try simp only [List.setIfInBounds_toArray, List.set_cons_succ, List.set_cons_zero]
              refine reg_take 22 150 1 #[true, true, true, true, true, true, true, true, true, true, true, true, true, true, true, true, true, true, true, true, true, true, true, false] (by rfl) (v := ?_) rfl rfl (by kernel_rfl) (by kernel_rfl) (by kernel_rfl) (by kernel_rfl) (fun _ _ _ h => h) (by rfl) ?_ (Till.mk' e8 trivial) ?_
              rotate_left
              · intro W hS; go_simp; all_goals with_reducible rfl
              try simp only [List.setIfInBounds_toArray, List.set_cons_succ, List.set_cons_zero]
              refine reg_take 23 151 0 #[true, true, true, true, true, true, true, true, true, true, true, true, true, true, true, true, true, true, true, true, true, true, true, true] (by rfl) (v := ?_) rfl rfl (by kernel_rfl) (by kernel_rfl) (by kernel_rfl) (by kernel_rfl) (fun _ _ _ h => h) (by rfl) ?_ (Till.mk' e8 trivial) ?_
              rotate_left
              · intro W hS; go_simp; all_goals with_reducible rfl
              try simp only [List.setIfInBounds_toArray, List.set_cons_succ, List.set_cons_zero]
              refine reg_done (by kernel_rfl) ?_ _
              rotate_left 1
              go_simp
              refine hK _ _ (Till.mk' e8 trivial) ?_
              clear hK K
              try simp only [List.setIfInBounds_toArray, List.set_cons_succ, List.set_cons_zero]
              refine reg_one 17 2 #[true, true, true, true, true, true, true, true, true, true, true, true, true, true, true, true, true, true, true, true, true, true, false, false] (by kernel_rfl) rfl (by rfl) (by kernel_rfl) (fun K hK => ?_)
              go_simp
              refine (Count_any y8 gA g _ _ b8).mono ?_
              rintro e ww ⟨rfl, rfl⟩
              refine hK _ _ (Till.mk' e8 trivial) ?_
              clear hK K
              try simp only [List.setIfInBounds_toArray, List.set_cons_succ, List.set_cons_zero]
              refine reg_take 22 150 1 #[true, true, true, true, true, true, true, true, true, true, true, true, true, true, true, true, true, true, true, true, true, true, true, false] (by rfl) (v := ?_) rfl rfl (by kernel_rfl) (by kernel_rfl) (by kernel_rfl) (by kernel_rfl) (fun _ _ _ h => h) (by rfl) ?_ (Till.mk' e8 trivial) ?_
              rotate_left
              · intro W hS; go_simp; all_goals with_reducible rfl
              try simp only [List.setIfInBounds_toArray, List.set_cons_succ, List.set_cons_zero]
              refine reg_take 23 151 0 #[true, true, true, true, true, true, true, true, true, true, true, true, true, true, true, true, true, true, true, true, true, true, true, true] (by rfl) (v := ?_) rfl rfl (by kernel_rfl) (by kernel_rfl) (by kernel_rfl) (by kernel_rfl) (fun _ _ _ h => h) (by rfl) ?_ (Till.mk' e8 trivial) ?_
              rotate_left
              · intro W hS; go_simp; all_goals with_reducible rfl
              try simp only [List.setIfInBounds_toArray, List.set_cons_succ, List.set_cons_zero]
              refine reg_done (by kernel_rfl) ?_ _
              all_goals
                have hf1 : sA.fine 6 := HFN.out.1
                have hf2 : sA.writes.length ≤ st1.writes.length + 10 := HFN.out.2.1
                have hf3 : rc = 0 → sz + 8 + l5.length ≤ 320 := fun h => by have := HFN.out.2.2 h; omega
                have hw8 := HWL.out
                have hz1 : szN ≤ 320 := by
                  rw [HNN.out.1]
                  split
                  · exact hf3 (by assumption)
                  · omega
                have hz2 : ctN ≤ 100000 + (k + 1) := by rw [HNN.out.2]; split <;> omega
                have lgz : Logs w y8 g xg gA xA szN ctN sA (k + 1) := ⟨tw8.sub (Y := [gA, xA]) (by intro x hx; simp at hx; rcases hx with rfl | rfl <;> simp), HNE.out, b8, bl8, hz1, hz2, hf1, by omega⟩
                have LGZ := Lib.hid lgz
                clear lgz hf1 hf2 hf3 hw8 hz1 hz2
                clear tw8 sm8 bl8 b8 n8 tw7 sm7 bl7 b7 e7 e8 RP e2 e2a e6 hr6 AP HB6 hs5w hd5
                have SM := Lib.hid (Tsame LGZ.out.two)
                go_wp2_with fail
                refine SM.out.mono ?_
                rintro e z9 ⟨rfl, t9⟩
                have HFZ := Lib.hid (LGZ.out.turn t9)
                clear t9 SM
                go_wp2_with fail
                go_roundw
                case rel => exact ⟨k + 1, gA, xA, _, _, _, by omega, by go_num, rfl, rfl, HFZ.out⟩
                case measure => (simp [intOf] <;> omega)
        · have bqU := HLG3.out.2.2
          simp only [AC] at bqU
          rcases hcase with rfl | hcase
          · go_upto_region 17 with fail
            have hr4 := bqU.range 0 5
            rw [List.drop_zero, List.take_of_length_le (by simp)] at hr4
            have hsz4 : (Try.prog.info? 76).map (·.size) = some ([.int .i64 ac.kd, .int .i64 ac.P, .int .i64 ac.N, vB, vP] : List Value).length := by kernel_rfl
            have DOc := Do_any HLG3.out.2.1 ac.kd ac.P ac.N ac.AB ac.AP 0 ac.cB 0 ac.cP ac.bs ac.ps (by have := HK9.out; omega) hkdb HAC.out.1.2.1 HAC.out.1.2.2.1 HAC.out.1.2.2.2.1 HAC.out.1.2.2.2.2.1 HAC.out.1.2.2.2.2.2 HAC.out.2.1.1 HAC.out.2.1.2 LGH.out.fine (by have := LGH.out.wl; omega)
            rw [← HAC.out.2.2.1, ← HAC.out.2.2.2] at DOc
            have DOc := Lib.hid DOc
            go_wp2_with (first
              | (refine wpList_load_mid rfl 76 (.tmp 16) rfl q 0 rfl _ _ hr4 Try.underlying76 rfl hsz4 ?_)
              | fail)
            refine DOc.out.mono ?_
            rintro e y1 ⟨rfl, st1, tw1, sm1, fn1, wl1, lf1⟩
            have bq1 := sm1.blk (x := q) (by simp) bqU
            have q0b := bq1.cell 0
            simp only [List.getElem?_cons_zero] at q0b
            have hw8 := LGH.out.wl
            have lg1 : Logs w y1 g xg gA xA sz ct st1 k := ⟨tw1.sub (fun x hx => List.mem_cons_of_mem _ hx), LGH.out.ne, sm1.blk (x := gA) (by simp) HLG3.out.1.a, sm1.blk (x := xA) (by simp) HLG3.out.1.b, LGH.out.sz, LGH.out.ct, fn1, by omega⟩
            have LG1 := Lib.hid lg1
            clear lg1 hw8 tw1 sm1 fn1 wl1 lf1 bq1 hr4 hsz4 DOc bqU
            go_wp2_with fail
            refine (W9.out ac.kd hkdb y1).mono ?_
            rintro e ww ⟨rfl, rfl⟩
            rw [← HK9.out]
            clear W9
            obtain ⟨b5, o5, c5l, n5l, A5l, l5, ⟨c5', hv5, _⟩, hb5, hd5, hl5, hn5, hs5w⟩ := HL.out.1.get hkl
            injection hv5 with e5 _ e6
            subst e5 e6
            have hc5 := (LG1.out.two.bel.cell (p := ⟨b5, o5 + k, none⟩) hb5).trans hd5
            have hn5b : n5l ≤ 9223372036854775807 := by
              obtain ⟨_, _, _, ee, h1, h2, _⟩ := hs5w
              injection ee with _ _ e3
              subst e3
              unfold maxLen at h2
              omega
            by_cases h120 : 120 < n5l
            · have h120I : (120 : Int) < n5l := by omega
              have HF := Lib.hid LG1.out.two.bel
              clear hs5w hl5 hd5
              go_wp2_with fail
              go_ret
              exact ⟨rfl, HF.out⟩
            · have h120I : (n5l : Int) ≤ 120 := by omega
              obtain rfl : l5.length = n5l := hn5
              obtain ⟨V2, hV2⟩ : ∃ V2, V2 = y1.drew := ⟨_, rfl⟩
              have t2 : Turns [] y1 V2 := by rw [hV2]; exact (Turns.refl _ _).drew
              have lg2 := LG1.out.turn t2
              have hsl := lg2.two.argD hs5w
              obtain ⟨v6, V6, hr6, o6, t6⟩ := run_fresh_copy V2 hsl (Nat.le_refl _) (by omega) 34
              obtain ⟨A6, c6, rfl⟩ := own_formV o6
              have lg6 := lg2.turn t6
              have e2 := cellW t2 hc5
              have e2a := cellW ((Turns.refl [] V2).alloc (.cells #[] 5)) e2
              have e6 := cellW t6 e2
              have hszl := lg6.sz
              have hctl := lg6.ct
              have HWL := Lib.hid lg6.wl
              have AP := Lib.hid (TApp lg6.two (by simp; exact lg6.ne) sz ct lg6.a A6 c6 l5 (Sl.of_own o6) (by omega) (by omega) (by omega) (by have := lg6.wl; omega))
              have HB6 := Lib.hid lg6.b
              have HNE := Lib.hid lg6.ne
              have HFN := appR_fine st1 6 sz ct l5 lg6.fine lg6.two.lens.1 (by omega) (by omega)
              obtain ⟨⟨sA, rc⟩, hrc⟩ : ∃ r, r = appR st1 6 sz ct l5 := ⟨_, rfl⟩
              rw [← hrc] at HFN
              have HFN := Lib.hid HFN
              have AP2 := AP.out
              have HRC := Lib.hid hrc
              have HV2 := Lib.hid hV2
              clear hl5 hV2 t2 lg2 hsl o6 t6 lg6 hrc AP2
              go_upto_region 30 with fail
              refine reg_begin (fun W => W.cell? ⟨b5, o5 + k, none⟩ = some (.slice A5l l5.length c5l)) (fun _ => True) 24 24 #[false, false, false, false, false, false, false, false, false, false, false, false, false, false, false, false, false, false, false, false, false, false, false, false] (by kernel_rfl) (by kernel_rfl) (by kernel_rfl) ?_
              rw [← HV2.out]
              refine reg_take 0 128 23 #[true, false, false, false, false, false, false, false, false, false, false, false, false, false, false, false, false, false, false, false, false, false, false, false] (by rfl) (v := ?_) rfl rfl (by kernel_rfl) (by kernel_rfl) (by kernel_rfl) (by kernel_rfl) (fun _ _ _ h => h) (by rfl) ?_ (Till.mk' e2 trivial) ?_
              rotate_left
              · intro W hS; go_simp; all_goals with_reducible rfl
              try simp only [List.setIfInBounds_toArray, List.set_cons_succ, List.set_cons_zero]
              refine reg_take 2 130 22 #[true, false, true, false, false, false, false, false, false, false, false, false, false, false, false, false, false, false, false, false, false, false, false, false] (by rfl) (v := ?_) rfl rfl (by kernel_rfl) (by kernel_rfl) (by kernel_rfl) (by kernel_rfl) (fun _ _ _ h => h) (by rfl) ?_ (Till.mk' e2 trivial) ?_
              rotate_left
              · intro W hS; go_simp; all_goals with_reducible rfl
              try simp only [List.setIfInBounds_toArray, List.set_cons_succ, List.set_cons_zero]
              refine reg_take 3 131 21 #[true, false, true, true, false, false, false, false, false, false, false, false, false, false, false, false, false, false, false, false, false, false, false, false] (by rfl) (v := ?_) rfl rfl (by kernel_rfl) (by kernel_rfl) (by kernel_rfl) (by kernel_rfl) (fun _ _ _ h => h) (by rfl) ?_ (Till.mk' e2 trivial) ?_
              rotate_left
              · intro W hS; go_simp; all_goals with_reducible rfl
              try simp only [List.setIfInBounds_toArray, List.set_cons_succ, List.set_cons_zero]
              refine reg_take 4 132 20 #[true, false, true, true, true, false, false, false, false, false, false, false, false, false, false, false, false, false, false, false, false, false, false, false] (by rfl) (v := ?_) rfl rfl (by kernel_rfl) (by kernel_rfl) (by kernel_rfl) (by kernel_rfl) (fun _ _ _ h => h) (by rfl) ?_ (Till.mk' e2 trivial) ?_
              rotate_left
              · intro W hS; go_simp; all_goals with_reducible rfl
              try simp only [List.setIfInBounds_toArray, List.set_cons_succ, List.set_cons_zero]
              refine reg_take 5 133 19 #[true, false, true, true, true, true, false, false, false, false, false, false, false, false, false, false, false, false, false, false, false, false, false, false] (by rfl) (v := ?_) rfl rfl (by kernel_rfl) (by kernel_rfl) (by kernel_rfl) (by kernel_rfl) (fun _ _ _ h => h) (by rfl) ?_ (Till.mk' e2 trivial) ?_
              rotate_left
              · intro W hS; have c9 : W.cell? ⟨b5, o5 + k, none⟩ = some (.slice A5l l5.length c5l) := hS; go_simp; all_goals with_reducible rfl
              try simp only [List.setIfInBounds_toArray, List.set_cons_succ, List.set_cons_zero]
              refine reg_take 8 136 18 #[true, false, true, true, true, true, false, false, true, false, false, false, false, false, false, false, false, false, false, false, false, false, false, false] (by rfl) (v := ?_) rfl rfl (by kernel_rfl) (by kernel_rfl) (by kernel_rfl) (by kernel_rfl) (fun _ _ _ h => h) (by rfl) ?_ (Till.mk' e2 trivial) ?_
              rotate_left
              · intro W hS; go_simp; all_goals with_reducible rfl
              try simp only [List.setIfInBounds_toArray, List.set_cons_succ, List.set_cons_zero]
              refine reg_take 9 137 17 #[true, false, true, true, true, true, false, false, true, true, false, false, false, false, false, false, false, false, false, false, false, false, false, false] (by rfl) (v := ?_) rfl rfl (by kernel_rfl) (by kernel_rfl) (by kernel_rfl) (by kernel_rfl) (fun _ _ _ h => h) (by rfl) ?_ (Till.mk' e2 trivial) ?_
              rotate_left
              · intro W hS; go_simp; all_goals with_reducible rfl
              try simp only [List.setIfInBounds_toArray, List.set_cons_succ, List.set_cons_zero]
              refine reg_take 10 138 16 #[true, false, true, true, true, true, false, false, true, true, true, false, false, false, false, false, false, false, false, false, false, false, false, false] (by rfl) (v := ?_) rfl rfl (by kernel_rfl) (by kernel_rfl) (by kernel_rfl) (by kernel_rfl) (fun _ _ _ h => h) (by rfl) ?_ (Till.mk' e2 trivial) ?_
              rotate_left
              · intro W hS; go_simp; all_goals with_reducible rfl
              try simp only [List.setIfInBounds_toArray, List.set_cons_succ, List.set_cons_zero]
              refine reg_take 11 139 15 #[true, false, true, true, true, true, false, false, true, true, true, true, false, false, false, false, false, false, false, false, false, false, false, false] (by rfl) (v := ?_) rfl rfl (by kernel_rfl) (by kernel_rfl) (by kernel_rfl) (by kernel_rfl) (fun _ _ _ h => h) (by rfl) ?_ (Till.mk' e2 trivial) ?_
              rotate_left
              · intro W hS; go_simp; all_goals with_reducible rfl
              try simp only [List.setIfInBounds_toArray, List.set_cons_succ, List.set_cons_zero]
              refine reg_take 12 140 14 #[true, false, true, true, true, true, false, false, true, true, true, true, true, false, false, false, false, false, false, false, false, false, false, false] (by rfl) (v := ?_) rfl rfl (by kernel_rfl) (by kernel_rfl) (by kernel_rfl) (by kernel_rfl) (fun _ _ _ h => h) (by rfl) ?_ (Till.mk' e2 trivial) ?_
              rotate_left
              · intro W hS; have c9 : W.cell? ⟨b5, o5 + k, none⟩ = some (.slice A5l l5.length c5l) := hS; go_simp; all_goals with_reducible rfl
              try simp only [List.setIfInBounds_toArray, List.set_cons_succ, List.set_cons_zero]
              refine reg_one 1 13 #[true, true, true, true, true, true, false, false, true, true, true, true, true, false, false, false, false, false, false, false, false, false, false, false] (by kernel_rfl) rfl (by rfl) (by kernel_rfl) (fun K hK => ?_)
              go_simp
              refine hK _ _ (Till.mk' e2a trivial) ?_
              clear hK K
              try simp only [List.setIfInBounds_toArray, List.set_cons_succ, List.set_cons_zero]
              refine reg_one 6 12 #[true, true, true, true, true, true, true, false, true, true, true, true, true, false, false, false, false, false, false, false, false, false, false, false] (by kernel_rfl) rfl (by rfl) (by kernel_rfl) (fun K hK => ?_)
              refine wp_append_run (vs := .slice (some ⟨V2.heap.size, 0, none⟩) 0 0) (vx := .slice A5l l5.length c5l) (R := fun v w9 => .slice A6 l5.length c6 = v ∧ V6 = w9) _ (.tmp 129) (.tmp 133) rfl (by rfl) (by rfl) ⟨_, _, hr6, rfl, rfl⟩ ?_
              rintro _ _ ⟨rfl, rfl⟩
              refine hK _ _ (Till.mk' e6 trivial) ?_
              clear hK K
              try simp only [List.setIfInBounds_toArray, List.set_cons_succ, List.set_cons_zero]
              refine reg_one 7 11 #[true, true, true, true, true, true, true, true, true, true, true, true, true, false, false, false, false, false, false, false, false, false, false, false] (by kernel_rfl) rfl (by rfl) (by kernel_rfl) (fun K hK => ?_)
              go_simp
              refine AP.out.mono ?_
              rintro e y7 ⟨rfl, tw7, sm7, bl7⟩
              have e7 := (tw7.bel.cell (p := ⟨b5, o5 + k, none⟩) hb5).trans hd5
              have b7 := sm7.blk (x := xA) (by simp) HB6.out
              rw [← HRC.out] at tw7 bl7
              simp only at tw7 bl7
              refine hK _ _ (Till.mk' e7 trivial) ?_
              clear hK K
              try simp only [List.setIfInBounds_toArray, List.set_cons_succ, List.set_cons_zero]
              refine reg_one 13 10 #[true, true, true, true, true, true, true, true, true, true, true, true, true, true, false, false, false, false, false, false, false, false, false, false] (by kernel_rfl) rfl (by rfl) (by kernel_rfl) (fun K hK => ?_)
              go_simp
              have RP := TRApp (tw7.sub (Y := xA :: [gA]) (by intro x hx; simp at hx; rcases hx with rfl | rfl <;> simp)) (by simp; exact fun e => HNE.out e.symm) sz ct b7 A5l c5l l5 (tw7.argD hs5w) (by omega) (by omega) (by omega) (by have := HWL.out; omega)
              refine RP.mono ?_
              rintro e y8 ⟨rfl, tw8, sm8, bl8⟩
              have e8 := (tw8.bel.cell (p := ⟨b5, o5 + k, none⟩) hb5).trans hd5
              have b8 := sm8.blk (x := gA) (by simp) bl7
              rw [← HRC.out] at tw8 bl8 ⊢
              simp only at tw8 bl8 ⊢
              rw [ite_LG] at b8
              rw [ite_XLG] at bl8
              obtain ⟨szN, hsN⟩ : ∃ s : Nat, s = (if rc = 0 then sz + 8 + l5.length else sz) := ⟨_, rfl⟩
              obtain ⟨ctN, hcN⟩ : ∃ s : Nat, s = (if rc = 0 then ct + 1 else ct) := ⟨_, rfl⟩
              rw [← hsN, ← hcN] at b8 bl8
              have HNN := Lib.hid (And.intro hsN hcN)
              clear hsN hcN
              have n8 := bl8.cell 2
              simp only [XLG, List.getElem?_cons_zero, List.getElem?_cons_succ] at n8
              refine hK _ _ (Till.mk' e8 trivial) ?_
              clear hK K
              try simp only [List.setIfInBounds_toArray, List.set_cons_succ, List.set_cons_zero]
              refine reg_take 14 142 9 #[true, true, true, true, true, true, true, true, true, true, true, true, true, true, true, false, false, false, false, false, false, false, false, false] (by rfl) (v := ?_) rfl rfl (by kernel_rfl) (by kernel_rfl) (by kernel_rfl) (by kernel_rfl) (fun _ _ _ h => h) (by rfl) ?_ (Till.mk' e8 trivial) ?_
              rotate_left
              · intro W hS; go_simp; all_goals with_reducible rfl
              try simp only [List.setIfInBounds_toArray, List.set_cons_succ, List.set_cons_zero]
              refine reg_take 15 143 8 #[true, true, true, true, true, true, true, true, true, true, true, true, true, true, true, true, false, false, false, false, false, false, false, false] (by rfl) (v := ?_) rfl rfl (by kernel_rfl) (by kernel_rfl) (by kernel_rfl) (by kernel_rfl) (fun _ _ _ h => h) (by rfl) ?_ (Till.mk' e8 trivial) ?_
              rotate_left
              · intro W hS; go_simp; all_goals with_reducible rfl
              try simp only [List.setIfInBounds_toArray, List.set_cons_succ, List.set_cons_zero]
              refine reg_take 16 144 7 #[true, true, true, true, true, true, true, true, true, true, true, true, true, true, true, true, true, false, false, false, false, false, false, false] (by rfl) (v := ?_) rfl rfl (by kernel_rfl) (by kernel_rfl) (by kernel_rfl) (by kernel_rfl) (fun _ _ _ h => h) (by rfl) ?_ (Till.mk' e8 trivial) ?_
              rotate_left
              · intro W hS; go_simp; all_goals with_reducible rfl
              try simp only [List.setIfInBounds_toArray, List.set_cons_succ, List.set_cons_zero]
              refine reg_take 18 146 6 #[true, true, true, true, true, true, true, true, true, true, true, true, true, true, true, true, true, false, true, false, false, false, false, false] (by rfl) (v := ?_) rfl rfl (by kernel_rfl) (by kernel_rfl) (by kernel_rfl) (by kernel_rfl) (fun _ _ _ h => h) (by rfl) ?_ (Till.mk' e8 trivial) ?_
              rotate_left
              · intro W hS; go_simp; all_goals with_reducible rfl
              try simp only [List.setIfInBounds_toArray, List.set_cons_succ, List.set_cons_zero]
              refine reg_take 19 147 5 #[true, true, true, true, true, true, true, true, true, true, true, true, true, true, true, true, true, false, true, true, false, false, false, false] (by rfl) (v := ?_) rfl rfl (by kernel_rfl) (by kernel_rfl) (by kernel_rfl) (by kernel_rfl) (fun _ _ _ h => h) (by rfl) ?_ (Till.mk' e8 trivial) ?_
              rotate_left
              · intro W hS; go_simp; all_goals with_reducible rfl
              try simp only [List.setIfInBounds_toArray, List.set_cons_succ, List.set_cons_zero]
              refine reg_take 20 148 4 #[true, true, true, true, true, true, true, true, true, true, true, true, true, true, true, true, true, false, true, true, true, false, false, false] (by rfl) (v := ?_) rfl rfl (by kernel_rfl) (by kernel_rfl) (by kernel_rfl) (by kernel_rfl) (fun _ _ _ h => h) (by rfl) ?_ (Till.mk' e8 trivial) ?_
              rotate_left
              · intro W hS; go_simp; all_goals with_reducible rfl
              try simp only [List.setIfInBounds_toArray, List.set_cons_succ, List.set_cons_zero]
              refine reg_two 17 21 3 #[true, true, true, true, true, true, true, true, true, true, true, true, true, true, true, true, true, true, true, true, true, false, false, false] #[true, true, true, true, true, true, true, true, true, true, true, true, true, true, true, true, true, false, true, true, true, true, false, false] (by kernel_rfl) rfl rfl (by rfl) (by rfl) (by kernel_rfl) (by kernel_rfl) (fun K hK => ?_) (fun K hK => ?_)
              go_simp
              refine (Count_any y8 gA g _ _ b8).mono ?_
              rintro e ww ⟨rfl, rfl⟩
              refine hK _ _ (Till.mk' e8 trivial) ?_
              clear hK K
              try simp only [List.setIfInBounds_toArray, List.set_cons_succ, List.set_cons_zero]
              refine reg_one 21 2 #[true, true, true, true, true, true, true, true, true, true, true, true, true, true, true, true, true, true, true, true, true, true, false, false] (by kernel_rfl) rfl (by rfl) (by kernel_rfl) (fun K hK => ?_)
              go_simp
              refine hK _ _ (Till.mk' e8 trivial) ?_
              clear hK K
              try simp only [List.setIfInBounds_toArray, List.set_cons_succ, List.set_cons_zero]
              refine reg_take 22 150 1 #[true, true, true, true, true, true, true, true, true, true, true, true, true, true, true, true, true, true, true, true, true, true, true, false] (by rfl) (v := ?_) rfl rfl (by kernel_rfl) (by kernel_rfl) (by kernel_rfl) (by kernel_rfl) (fun _ _ _ h => h) (by rfl) ?_ (Till.mk' e8 trivial) ?_
              rotate_left
              · intro W hS; go_simp; all_goals with_reducible rfl
              try simp only [List.setIfInBounds_toArray, List.set_cons_succ, List.set_cons_zero]
              refine reg_take 23 151 0 #[true, true, true, true, true, true, true, true, true, true, true, true, true, true, true, true, true, true, true, true, true, true, true, true] (by rfl) (v := ?_) rfl rfl (by kernel_rfl) (by kernel_rfl) (by kernel_rfl) (by kernel_rfl) (fun _ _ _ h => h) (by rfl) ?_ (Till.mk' e8 trivial) ?_
              rotate_left
              · intro W hS; go_simp; all_goals with_reducible rfl
              try simp only [List.setIfInBounds_toArray, List.set_cons_succ, List.set_cons_zero]
              refine reg_done (by kernel_rfl) ?_ _
              rotate_left 1
              go_simp
              refine hK _ _ (Till.mk' e8 trivial) ?_
              clear hK K
              try simp only [List.setIfInBounds_toArray, List.set_cons_succ, List.set_cons_zero]
              refine reg_one 17 2 #[true, true, true, true, true, true, true, true, true, true, true, true, true, true, true, true, true, true, true, true, true, true, false, false] (by kernel_rfl) rfl (by rfl) (by kernel_rfl) (fun K hK => ?_)
              go_simp
              refine (Count_any y8 gA g _ _ b8).mono ?_
              rintro e ww ⟨rfl, rfl⟩
              refine hK _ _ (Till.mk' e8 trivial) ?_
              clear hK K
              try simp only [List.setIfInBounds_toArray, List.set_cons_succ, List.set_cons_zero]
              refine reg_take 22 150 1 #[true, true, true, true, true, true, true, true, true, true, true, true, true, true, true, true, true, true, true, true, true, true, true, false] (by rfl) (v := ?_) rfl rfl (by kernel_rfl) (by kernel_rfl) (by kernel_rfl) (by kernel_rfl) (fun _ _ _ h => h) (by rfl) ?_ (Till.mk' e8 trivial) ?_
              rotate_left
              · intro W hS; go_simp; all_goals with_reducible rfl
              try simp only [List.setIfInBounds_toArray, List.set_cons_succ, List.set_cons_zero]
              refine reg_take 23 151 0 #[true, true, true, true, true, true, true, true, true, true, true, true, true, true, true, true, true, true, true, true, true, true, true, true] (by rfl) (v := ?_) rfl rfl (by kernel_rfl) (by kernel_rfl) (by kernel_rfl) (by kernel_rfl) (fun _ _ _ h => h) (by rfl) ?_ (Till.mk' e8 trivial) ?_
              rotate_left
              · intro W hS; go_simp; all_goals with_reducible rfl
              try simp only [List.setIfInBounds_toArray, List.set_cons_succ, List.set_cons_zero]
              refine reg_done (by kernel_rfl) ?_ _
              all_goals
                have hf1 : sA.fine 6 := HFN.out.1
                have hf2 : sA.writes.length ≤ st1.writes.length + 10 := HFN.out.2.1
                have hf3 : rc = 0 → sz + 8 + l5.length ≤ 320 := fun h => by have := HFN.out.2.2 h; omega
                have hw8 := HWL.out
                have hz1 : szN ≤ 320 := by
                  rw [HNN.out.1]
                  split
                  · exact hf3 (by assumption)
                  · omega
                have hz2 : ctN ≤ 100000 + (k + 1) := by rw [HNN.out.2]; split <;> omega
                have lgz : Logs w y8 g xg gA xA szN ctN sA (k + 1) := ⟨tw8.sub (Y := [gA, xA]) (by intro x hx; simp at hx; rcases hx with rfl | rfl <;> simp), HNE.out, b8, bl8, hz1, hz2, hf1, by omega⟩
                have LGZ := Lib.hid lgz
                clear lgz hf1 hf2 hf3 hw8 hz1 hz2
                clear tw8 sm8 bl8 b8 n8 tw7 sm7 bl7 b7 e7 e8 RP e2 e2a e6 hr6 AP HB6 hs5w hd5
                have SM := Lib.hid (Tsame LGZ.out.two)
                go_wp2_with fail
                refine SM.out.mono ?_
                rintro e z9 ⟨rfl, t9⟩
                have HFZ := Lib.hid (LGZ.out.turn t9)
                clear t9 SM
                go_wp2_with fail
                go_roundw
                case rel => exact ⟨k + 1, gA, xA, _, _, _, by omega, by go_num, rfl, rfl, HFZ.out⟩
                case measure => (simp [intOf] <;> omega)
          · have h78 : (k9 = 7 ∧ True) ∨ (k9 = 8 ∧ ¬ 0 < n3) := by
              rcases hcase with h | h
              · exact .inl ⟨h, trivial⟩
              · exact .inr h
            clear hcase
            rcases h78 with ⟨rfl, h2⟩ | ⟨rfl, h2⟩
            all_goals
              rw [hn3] at *
              go_upto_region 17 with fail
              have hr4 := bqU.range 0 5
              rw [List.drop_zero, List.take_of_length_le (by simp)] at hr4
              have hsz4 : (Try.prog.info? 76).map (·.size) = some ([.int .i64 ac.kd, .int .i64 ac.P, .int .i64 ac.N, vB, vP] : List Value).length := by kernel_rfl
              have DOc := Do_any HLG3.out.2.1 ac.kd ac.P ac.N ac.AB ac.AP 0 ac.cB 0 ac.cP ac.bs ac.ps (by have := HK9.out; omega) hkdb HAC.out.1.2.1 HAC.out.1.2.2.1 HAC.out.1.2.2.2.1 HAC.out.1.2.2.2.2.1 HAC.out.1.2.2.2.2.2 HAC.out.2.1.1 HAC.out.2.1.2 LGH.out.fine (by have := LGH.out.wl; omega)
              rw [← HAC.out.2.2.1, ← HAC.out.2.2.2] at DOc
              have DOc := Lib.hid DOc
              go_wp2_with (first
                | (refine wpList_load_mid rfl 76 (.tmp 16) rfl q 0 rfl _ _ hr4 Try.underlying76 rfl hsz4 ?_)
                | fail)
              refine DOc.out.mono ?_
              rintro e y1 ⟨rfl, st1, tw1, sm1, fn1, wl1, lf1⟩
              have bq1 := sm1.blk (x := q) (by simp) bqU
              have q0b := bq1.cell 0
              simp only [List.getElem?_cons_zero] at q0b
              have hw8 := LGH.out.wl
              have lg1 : Logs w y1 g xg gA xA sz ct st1 k := ⟨tw1.sub (fun x hx => List.mem_cons_of_mem _ hx), LGH.out.ne, sm1.blk (x := gA) (by simp) HLG3.out.1.a, sm1.blk (x := xA) (by simp) HLG3.out.1.b, LGH.out.sz, LGH.out.ct, fn1, by omega⟩
              have LG1 := Lib.hid lg1
              clear lg1 hw8 tw1 sm1 fn1 wl1 lf1 bq1 hr4 hsz4 DOc bqU
              go_wp2_with fail
              refine (W9.out ac.kd hkdb y1).mono ?_
              rintro e ww ⟨rfl, rfl⟩
              rw [← HK9.out]
              clear W9
              have OP := Lib.hid (TOpen LG1.out.two)
              cases hdd : st1.dead
              · cases hbb : st1.look.bad
                · go_wp2_with fail
                  refine OP.out.mono ?_
                  rintro e y2 op
                  obtain ⟨gA2, Aq, nq, cq, rfl, baq, hgq, _⟩ := op.good hdd hbb
                  have t2 := op.turns
                  have RO := Lib.hid (TROpen (LG1.out.two.turn t2 (by simp)) hdd)
                  have H2q := Lib.hid (And.intro t2 (And.intro baq hgq))
                  clear op t2 baq hgq OP
                  go_wp2_with fail
                  refine RO.out.mono ?_
                  rintro e y3 ⟨t3, _, hgood⟩
                  obtain ⟨xA2, Ar, nr, cr, rfl, bbq, hgr, _⟩ := hgood hbb
                  obtain ⟨sz2, ct2, lg2⟩ := Logs.open_ (e1 := 0) (e2 := 0) (k := k) LG1.out.two hbb H2q.out.1 H2q.out.2.1 H2q.out.2.2 t3 bbq hgr LG1.out.fine LG1.out.wl
                  have LG2 := Lib.hid lg2
                  clear t3 hgood bbq hgr lg2 RO
                  obtain ⟨b5, o5, c5l, n5l, A5l, l5, ⟨c5', hv5, _⟩, hb5, hd5, hl5, hn5, hs5w⟩ := HL.out.1.get hkl
                  injection hv5 with e5 _ e6
                  subst e5 e6
                  have hc5 := (LG2.out.two.bel.cell (p := ⟨b5, o5 + k, none⟩) hb5).trans hd5
                  have hn5b : n5l ≤ 9223372036854775807 := by
                    obtain ⟨_, _, _, ee, h1, h2, _⟩ := hs5w
                    injection ee with _ _ e3
                    subst e3
                    unfold maxLen at h2
                    omega
                  by_cases h120 : 120 < n5l
                  · have h120I : (120 : Int) < n5l := by omega
                    have HF := Lib.hid LG2.out.two.bel
                    clear hs5w hl5 hd5
                    go_wp2_with fail
                    go_ret
                    exact ⟨rfl, HF.out⟩
                  · have h120I : (n5l : Int) ≤ 120 := by omega
                    obtain rfl : l5.length = n5l := hn5
                    obtain ⟨V2, hV2⟩ : ∃ V2, V2 = y3.drew := ⟨_, rfl⟩
                    have t2 : Turns [] y3 V2 := by rw [hV2]; exact (Turns.refl _ _).drew
                    have lg2 := LG2.out.turn t2
                    have hsl := lg2.two.argD hs5w
                    obtain ⟨v6, V6, hr6, o6, t6⟩ := run_fresh_copy V2 hsl (Nat.le_refl _) (by omega) 34
                    obtain ⟨A6, c6, rfl⟩ := own_formV o6
                    have lg6 := lg2.turn t6
                    have e2 := cellW t2 hc5
                    have e2a := cellW ((Turns.refl [] V2).alloc (.cells #[] 5)) e2
                    have e6 := cellW t6 e2
                    have hszl := lg6.sz
                    have hctl := lg6.ct
                    have HWL := Lib.hid lg6.wl
                    have AP := Lib.hid (TApp lg6.two (by simp; exact lg6.ne) sz2 ct2 lg6.a A6 c6 l5 (Sl.of_own o6) (by omega) (by omega) (by omega) (by have := lg6.wl; omega))
                    have HB6 := Lib.hid lg6.b
                    have HNE := Lib.hid lg6.ne
                    have HFN := appR_fine st1 6 sz2 ct2 l5 lg6.fine lg6.two.lens.1 (by omega) (by omega)
                    obtain ⟨⟨sA, rc⟩, hrc⟩ : ∃ r, r = appR st1 6 sz2 ct2 l5 := ⟨_, rfl⟩
                    rw [← hrc] at HFN
                    have HFN := Lib.hid HFN
                    have AP2 := AP.out
                    have HRC := Lib.hid hrc
                    have HV2 := Lib.hid hV2
                    clear hl5 hV2 t2 lg2 hsl o6 t6 lg6 hrc AP2
                    go_upto_region 30 with fail
                    refine reg_begin (fun W => W.cell? ⟨b5, o5 + k, none⟩ = some (.slice A5l l5.length c5l)) (fun _ => True) 24 24 #[false, false, false, false, false, false, false, false, false, false, false, false, false, false, false, false, false, false, false, false, false, false, false, false] (by kernel_rfl) (by kernel_rfl) (by kernel_rfl) ?_
                    rw [← HV2.out]
                    refine reg_take 0 128 23 #[true, false, false, false, false, false, false, false, false, false, false, false, false, false, false, false, false, false, false, false, false, false, false, false] (by rfl) (v := ?_) rfl rfl (by kernel_rfl) (by kernel_rfl) (by kernel_rfl) (by kernel_rfl) (fun _ _ _ h => h) (by rfl) ?_ (Till.mk' e2 trivial) ?_
                    rotate_left
                    · intro W hS; go_simp; all_goals with_reducible rfl
                    try simp only [List.setIfInBounds_toArray, List.set_cons_succ, List.set_cons_zero]
                    refine reg_take 2 130 22 #[true, false, true, false, false, false, false, false, false, false, false, false, false, false, false, false, false, false, false, false, false, false, false, false] (by rfl) (v := ?_) rfl rfl (by kernel_rfl) (by kernel_rfl) (by kernel_rfl) (by kernel_rfl) (fun _ _ _ h => h) (by rfl) ?_ (Till.mk' e2 trivial) ?_
                    rotate_left
                    · intro W hS; go_simp; all_goals with_reducible rfl
                    try simp only [List.setIfInBounds_toArray, List.set_cons_succ, List.set_cons_zero]
                    refine reg_take 3 131 21 #[true, false, true, true, false, false, false, false, false, false, false, false, false, false, false, false, false, false, false, false, false, false, false, false] (by rfl) (v := ?_) rfl rfl (by kernel_rfl) (by kernel_rfl) (by kernel_rfl) (by kernel_rfl) (fun _ _ _ h => h) (by rfl) ?_ (Till.mk' e2 trivial) ?_
                    rotate_left
                    · intro W hS; go_simp; all_goals with_reducible rfl
                    try simp only [List.setIfInBounds_toArray, List.set_cons_succ, List.set_cons_zero]
                    refine reg_take 4 132 20 #[true, false, true, true, true, false, false, false, false, false, false, false, false, false, false, false, false, false, false, false, false, false, false, false] (by rfl) (v := ?_) rfl rfl (by kernel_rfl) (by kernel_rfl) (by kernel_rfl) (by kernel_rfl) (fun _ _ _ h => h) (by rfl) ?_ (Till.mk' e2 trivial) ?_
                    rotate_left
                    · intro W hS; go_simp; all_goals with_reducible rfl
                    try simp only [List.setIfInBounds_toArray, List.set_cons_succ, List.set_cons_zero]
                    refine reg_take 5 133 19 #[true, false, true, true, true, true, false, false, false, false, false, false, false, false, false, false, false, false, false, false, false, false, false, false] (by rfl) (v := ?_) rfl rfl (by kernel_rfl) (by kernel_rfl) (by kernel_rfl) (by kernel_rfl) (fun _ _ _ h => h) (by rfl) ?_ (Till.mk' e2 trivial) ?_
                    rotate_left
                    · intro W hS; have c9 : W.cell? ⟨b5, o5 + k, none⟩ = some (.slice A5l l5.length c5l) := hS; go_simp; all_goals with_reducible rfl
                    try simp only [List.setIfInBounds_toArray, List.set_cons_succ, List.set_cons_zero]
                    refine reg_take 8 136 18 #[true, false, true, true, true, true, false, false, true, false, false, false, false, false, false, false, false, false, false, false, false, false, false, false] (by rfl) (v := ?_) rfl rfl (by kernel_rfl) (by kernel_rfl) (by kernel_rfl) (by kernel_rfl) (fun _ _ _ h => h) (by rfl) ?_ (Till.mk' e2 trivial) ?_
                    rotate_left
                    · intro W hS; go_simp; all_goals with_reducible rfl
                    try simp only [List.setIfInBounds_toArray, List.set_cons_succ, List.set_cons_zero]
                    refine reg_take 9 137 17 #[true, false, true, true, true, true, false, false, true, true, false, false, false, false, false, false, false, false, false, false, false, false, false, false] (by rfl) (v := ?_) rfl rfl (by kernel_rfl) (by kernel_rfl) (by kernel_rfl) (by kernel_rfl) (fun _ _ _ h => h) (by rfl) ?_ (Till.mk' e2 trivial) ?_
                    rotate_left
                    · intro W hS; go_simp; all_goals with_reducible rfl
                    try simp only [List.setIfInBounds_toArray, List.set_cons_succ, List.set_cons_zero]
                    refine reg_take 10 138 16 #[true, false, true, true, true, true, false, false, true, true, true, false, false, false, false, false, false, false, false, false, false, false, false, false] (by rfl) (v := ?_) rfl rfl (by kernel_rfl) (by kernel_rfl) (by kernel_rfl) (by kernel_rfl) (fun _ _ _ h => h) (by rfl) ?_ (Till.mk' e2 trivial) ?_
                    rotate_left
                    · intro W hS; go_simp; all_goals with_reducible rfl
                    try simp only [List.setIfInBounds_toArray, List.set_cons_succ, List.set_cons_zero]
                    refine reg_take 11 139 15 #[true, false, true, true, true, true, false, false, true, true, true, true, false, false, false, false, false, false, false, false, false, false, false, false] (by rfl) (v := ?_) rfl rfl (by kernel_rfl) (by kernel_rfl) (by kernel_rfl) (by kernel_rfl) (fun _ _ _ h => h) (by rfl) ?_ (Till.mk' e2 trivial) ?_
                    rotate_left
                    · intro W hS; go_simp; all_goals with_reducible rfl
                    try simp only [List.setIfInBounds_toArray, List.set_cons_succ, List.set_cons_zero]
                    refine reg_take 12 140 14 #[true, false, true, true, true, true, false, false, true, true, true, true, true, false, false, false, false, false, false, false, false, false, false, false] (by rfl) (v := ?_) rfl rfl (by kernel_rfl) (by kernel_rfl) (by kernel_rfl) (by kernel_rfl) (fun _ _ _ h => h) (by rfl) ?_ (Till.mk' e2 trivial) ?_
                    rotate_left
                    · intro W hS; have c9 : W.cell? ⟨b5, o5 + k, none⟩ = some (.slice A5l l5.length c5l) := hS; go_simp; all_goals with_reducible rfl
                    try simp only [List.setIfInBounds_toArray, List.set_cons_succ, List.set_cons_zero]
                    refine reg_one 1 13 #[true, true, true, true, true, true, false, false, true, true, true, true, true, false, false, false, false, false, false, false, false, false, false, false] (by kernel_rfl) rfl (by rfl) (by kernel_rfl) (fun K hK => ?_)
                    go_simp
                    refine hK _ _ (Till.mk' e2a trivial) ?_
                    clear hK K
                    try simp only [List.setIfInBounds_toArray, List.set_cons_succ, List.set_cons_zero]
                    refine reg_one 6 12 #[true, true, true, true, true, true, true, false, true, true, true, true, true, false, false, false, false, false, false, false, false, false, false, false] (by kernel_rfl) rfl (by rfl) (by kernel_rfl) (fun K hK => ?_)
                    refine wp_append_run (vs := .slice (some ⟨V2.heap.size, 0, none⟩) 0 0) (vx := .slice A5l l5.length c5l) (R := fun v w9 => .slice A6 l5.length c6 = v ∧ V6 = w9) _ (.tmp 129) (.tmp 133) rfl (by rfl) (by rfl) ⟨_, _, hr6, rfl, rfl⟩ ?_
                    rintro _ _ ⟨rfl, rfl⟩
                    refine hK _ _ (Till.mk' e6 trivial) ?_
                    clear hK K
                    try simp only [List.setIfInBounds_toArray, List.set_cons_succ, List.set_cons_zero]
                    refine reg_one 7 11 #[true, true, true, true, true, true, true, true, true, true, true, true, true, false, false, false, false, false, false, false, false, false, false, false] (by kernel_rfl) rfl (by rfl) (by kernel_rfl) (fun K hK => ?_)
                    go_simp
                    refine AP.out.mono ?_
                    rintro e y7 ⟨rfl, tw7, sm7, bl7⟩
                    have e7 := (tw7.bel.cell (p := ⟨b5, o5 + k, none⟩) hb5).trans hd5
                    have b7 := sm7.blk (x := xA2) (by simp) HB6.out
                    rw [← HRC.out] at tw7 bl7
                    simp only at tw7 bl7
                    refine hK _ _ (Till.mk' e7 trivial) ?_
                    clear hK K
                    try simp only [List.setIfInBounds_toArray, List.set_cons_succ, List.set_cons_zero]
                    refine reg_one 13 10 #[true, true, true, true, true, true, true, true, true, true, true, true, true, true, false, false, false, false, false, false, false, false, false, false] (by kernel_rfl) rfl (by rfl) (by kernel_rfl) (fun K hK => ?_)
                    go_simp
                    have RP := TRApp (tw7.sub (Y := xA2 :: [gA2]) (by intro x hx; simp at hx; rcases hx with rfl | rfl <;> simp)) (by simp; exact fun e => HNE.out e.symm) sz2 ct2 b7 A5l c5l l5 (tw7.argD hs5w) (by omega) (by omega) (by omega) (by have := HWL.out; omega)
                    refine RP.mono ?_
                    rintro e y8 ⟨rfl, tw8, sm8, bl8⟩
                    have e8 := (tw8.bel.cell (p := ⟨b5, o5 + k, none⟩) hb5).trans hd5
                    have b8 := sm8.blk (x := gA2) (by simp) bl7
                    rw [← HRC.out] at tw8 bl8 ⊢
                    simp only at tw8 bl8 ⊢
                    rw [ite_LG] at b8
                    rw [ite_XLG] at bl8
                    obtain ⟨szN, hsN⟩ : ∃ s : Nat, s = (if rc = 0 then sz2 + 8 + l5.length else sz2) := ⟨_, rfl⟩
                    obtain ⟨ctN, hcN⟩ : ∃ s : Nat, s = (if rc = 0 then ct2 + 1 else ct2) := ⟨_, rfl⟩
                    rw [← hsN, ← hcN] at b8 bl8
                    have HNN := Lib.hid (And.intro hsN hcN)
                    clear hsN hcN
                    have n8 := bl8.cell 2
                    simp only [XLG, List.getElem?_cons_zero, List.getElem?_cons_succ] at n8
                    refine hK _ _ (Till.mk' e8 trivial) ?_
                    clear hK K
                    try simp only [List.setIfInBounds_toArray, List.set_cons_succ, List.set_cons_zero]
                    refine reg_take 14 142 9 #[true, true, true, true, true, true, true, true, true, true, true, true, true, true, true, false, false, false, false, false, false, false, false, false] (by rfl) (v := ?_) rfl rfl (by kernel_rfl) (by kernel_rfl) (by kernel_rfl) (by kernel_rfl) (fun _ _ _ h => h) (by rfl) ?_ (Till.mk' e8 trivial) ?_
                    rotate_left
                    · intro W hS; go_simp; all_goals with_reducible rfl
                    try simp only [List.setIfInBounds_toArray, List.set_cons_succ, List.set_cons_zero]
                    refine reg_take 15 143 8 #[true, true, true, true, true, true, true, true, true, true, true, true, true, true, true, true, false, false, false, false, false, false, false, false] (by rfl) (v := ?_) rfl rfl (by kernel_rfl) (by kernel_rfl) (by kernel_rfl) (by kernel_rfl) (fun _ _ _ h => h) (by rfl) ?_ (Till.mk' e8 trivial) ?_
                    rotate_left
                    · intro W hS; go_simp; all_goals with_reducible rfl
                    try simp only [List.setIfInBounds_toArray, List.set_cons_succ, List.set_cons_zero]
                    refine reg_take 16 144 7 #[true, true, true, true, true, true, true, true, true, true, true, true, true, true, true, true, true, false, false, false, false, false, false, false] (by rfl) (v := ?_) rfl rfl (by kernel_rfl) (by kernel_rfl) (by kernel_rfl) (by kernel_rfl) (fun _ _ _ h => h) (by rfl) ?_ (Till.mk' e8 trivial) ?_
                    rotate_left
                    · intro W hS; go_simp; all_goals with_reducible rfl
                    try simp only [List.setIfInBounds_toArray, List.set_cons_succ, List.set_cons_zero]
                    refine reg_take 18 146 6 #[true, true, true, true, true, true, true, true, true, true, true, true, true, true, true, true, true, false, true, false, false, false, false, false] (by rfl) (v := ?_) rfl rfl (by kernel_rfl) (by kernel_rfl) (by kernel_rfl) (by kernel_rfl) (fun _ _ _ h => h) (by rfl) ?_ (Till.mk' e8 trivial) ?_
                    rotate_left
                    · intro W hS; go_simp; all_goals with_reducible rfl
                    try simp only [List.setIfInBounds_toArray, List.set_cons_succ, List.set_cons_zero]
                    refine reg_take 19 147 5 #[true, true, true, true, true, true, true, true, true, true, true, true, true, true, true, true, true, false, true, true, false, false, false, false] (by rfl) (v := ?_) rfl rfl (by kernel_rfl) (by kernel_rfl) (by kernel_rfl) (by kernel_rfl) (fun _ _ _ h => h) (by rfl) ?_ (Till.mk' e8 trivial) ?_
                    rotate_left
                    · intro W hS; go_simp; all_goals with_reducible rfl
                    try simp only [List.setIfInBounds_toArray, List.set_cons_succ, List.set_cons_zero]
                    refine reg_take 20 148 4 #[true, true, true, true, true, true, true, true, true, true, true, true, true, true, true, true, true, false, true, true, true, false, false, false] (by rfl) (v := ?_) rfl rfl (by kernel_rfl) (by kernel_rfl) (by kernel_rfl) (by kernel_rfl) (fun _ _ _ h => h) (by rfl) ?_ (Till.mk' e8 trivial) ?_
                    rotate_left
                    · intro W hS; go_simp; all_goals with_reducible rfl
                    try simp only [List.setIfInBounds_toArray, List.set_cons_succ, List.set_cons_zero]
                    refine reg_two 17 21 3 #[true, true, true, true, true, true, true, true, true, true, true, true, true, true, true, true, true, true, true, true, true, false, false, false] #[true, true, true, true, true, true, true, true, true, true, true, true, true, true, true, true, true, false, true, true, true, true, false, false] (by kernel_rfl) rfl rfl (by rfl) (by rfl) (by kernel_rfl) (by kernel_rfl) (fun K hK => ?_) (fun K hK => ?_)
                    go_simp
                    refine (Count_any y8 gA2 g _ _ b8).mono ?_
                    rintro e ww ⟨rfl, rfl⟩
                    refine hK _ _ (Till.mk' e8 trivial) ?_
                    clear hK K
                    try simp only [List.setIfInBounds_toArray, List.set_cons_succ, List.set_cons_zero]
                    refine reg_one 21 2 #[true, true, true, true, true, true, true, true, true, true, true, true, true, true, true, true, true, true, true, true, true, true, false, false] (by kernel_rfl) rfl (by rfl) (by kernel_rfl) (fun K hK => ?_)
                    go_simp
                    refine hK _ _ (Till.mk' e8 trivial) ?_
                    clear hK K
                    try simp only [List.setIfInBounds_toArray, List.set_cons_succ, List.set_cons_zero]
                    refine reg_take 22 150 1 #[true, true, true, true, true, true, true, true, true, true, true, true, true, true, true, true, true, true, true, true, true, true, true, false] (by rfl) (v := ?_) rfl rfl (by kernel_rfl) (by kernel_rfl) (by kernel_rfl) (by kernel_rfl) (fun _ _ _ h => h) (by rfl) ?_ (Till.mk' e8 trivial) ?_
                    rotate_left
                    · intro W hS; go_simp; all_goals with_reducible rfl
                    try simp only [List.setIfInBounds_toArray, List.set_cons_succ, List.set_cons_zero]
                    refine reg_take 23 151 0 #[true, true, true, true, true, true, true, true, true, true, true, true, true, true, true, true, true, true, true, true, true, true, true, true] (by rfl) (v := ?_) rfl rfl (by kernel_rfl) (by kernel_rfl) (by kernel_rfl) (by kernel_rfl) (fun _ _ _ h => h) (by rfl) ?_ (Till.mk' e8 trivial) ?_
                    rotate_left
                    · intro W hS; go_simp; all_goals with_reducible rfl
                    try simp only [List.setIfInBounds_toArray, List.set_cons_succ, List.set_cons_zero]
                    refine reg_done (by kernel_rfl) ?_ _
                    rotate_left 1
                    go_simp
                    refine hK _ _ (Till.mk' e8 trivial) ?_
                    clear hK K
                    try simp only [List.setIfInBounds_toArray, List.set_cons_succ, List.set_cons_zero]
                    refine reg_one 17 2 #[true, true, true, true, true, true, true, true, true, true, true, true, true, true, true, true, true, true, true, true, true, true, false, false] (by kernel_rfl) rfl (by rfl) (by kernel_rfl) (fun K hK => ?_)
                    go_simp
                    refine (Count_any y8 gA2 g _ _ b8).mono ?_
                    rintro e ww ⟨rfl, rfl⟩
                    refine hK _ _ (Till.mk' e8 trivial) ?_
                    clear hK K
                    try simp only [List.setIfInBounds_toArray, List.set_cons_succ, List.set_cons_zero]
                    refine reg_take 22 150 1 #[true, true, true, true, true, true, true, true, true, true, true, true, true, true, true, true, true, true, true, true, true, true, true, false] (by rfl) (v := ?_) rfl rfl (by kernel_rfl) (by kernel_rfl) (by kernel_rfl) (by kernel_rfl) (fun _ _ _ h => h) (by rfl) ?_ (Till.mk' e8 trivial) ?_
                    rotate_left
                    · intro W hS; go_simp; all_goals with_reducible rfl
                    try simp only [List.setIfInBounds_toArray, List.set_cons_succ, List.set_cons_zero]
                    refine reg_take 23 151 0 #[true, true, true, true, true, true, true, true, true, true, true, true, true, true, true, true, true, true, true, true, true, true, true, true] (by rfl) (v := ?_) rfl rfl (by kernel_rfl) (by kernel_rfl) (by kernel_rfl) (by kernel_rfl) (fun _ _ _ h => h) (by rfl) ?_ (Till.mk' e8 trivial) ?_
                    rotate_left
                    · intro W hS; go_simp; all_goals with_reducible rfl
                    try simp only [List.setIfInBounds_toArray, List.set_cons_succ, List.set_cons_zero]
                    refine reg_done (by kernel_rfl) ?_ _
                    all_goals
                      have hf1 : sA.fine 6 := HFN.out.1
                      have hf2 : sA.writes.length ≤ st1.writes.length + 10 := HFN.out.2.1
                      have hf3 : rc = 0 → sz2 + 8 + l5.length ≤ 320 := fun h => by have := HFN.out.2.2 h; omega
                      have hw8 := HWL.out
                      have hz1 : szN ≤ 320 := by
                        rw [HNN.out.1]
                        split
                        · exact hf3 (by assumption)
                        · omega
                      have hz2 : ctN ≤ 100000 + (k + 1) := by rw [HNN.out.2]; split <;> omega
                      have lgz : Logs w y8 g xg gA2 xA2 szN ctN sA (k + 1) := ⟨tw8.sub (Y := [gA2, xA2]) (by intro x hx; simp at hx; rcases hx with rfl | rfl <;> simp), HNE.out, b8, bl8, hz1, hz2, hf1, by omega⟩
                      have LGZ := Lib.hid lgz
                      clear lgz hf1 hf2 hf3 hw8 hz1 hz2
                      clear tw8 sm8 bl8 b8 n8 tw7 sm7 bl7 b7 e7 e8 RP e2 e2a e6 hr6 AP HB6 hs5w hd5
                      have SM := Lib.hid (Tsame LGZ.out.two)
                      go_wp2_with fail
                      refine SM.out.mono ?_
                      rintro e z9 ⟨rfl, t9⟩
                      have HFZ := Lib.hid (LGZ.out.turn t9)
                      clear t9 SM
                      go_wp2_with fail
                      go_roundw
                      case rel => exact ⟨k + 1, gA2, xA2, _, _, _, by omega, by go_num, rfl, rfl, HFZ.out⟩
                      case measure => (simp [intOf] <;> omega)
                · go_wp2_with fail
                  refine OP.out.mono ?_
                  rintro e y2 op
                  have he := op.bad hdd hbb
                  subst he
                  have t2 := op.turns
                  have RO := Lib.hid (TROpen (LG1.out.two.turn t2 (by simp)) hdd)
                  have T2q := Lib.hid t2
                  clear op t2 OP
                  go_wp2_with fail
                  refine RO.out.mono ?_
                  rintro e y3 ⟨t3, hb3, _⟩
                  have he := hb3 hbb
                  subst he
                  have HF := Lib.hid ((LG1.out.two.turn T2q.out (by simp)).turn t3 (by simp)).bel
                  clear t3 hb3 RO
                  go_wp2_with fail
                  go_ret
                  exact ⟨rfl, HF.out⟩
              · go_wp2_with fail
                refine OP.out.mono ?_
                rintro e y2 op
                have he := op.gone hdd
                subst he
                have t2 := op.turns
                have RO := Lib.hid (TROpen_dead (LG1.out.two.turn t2 (by simp)) hdd)
                have HF := Lib.hid (LG1.out.two.turn t2 (by simp)).bel
                clear op t2 OP
                go_wp2_with fail
                refine RO.out.mono ?_
                rintro e y3 ⟨rfl, rfl⟩
                go_wp2_with fail
                go_ret
                exact ⟨rfl, HF.out⟩
      · have hkaI : ¬ (k : Int) < acts.length := by omega
        obtain ⟨b5, o5, c5l, n5l, A5l, l5, ⟨c5', hv5, _⟩, hb5, hd5, hl5, hn5, hs5w⟩ := HL.out.1.get hkl
        injection hv5 with e5 _ e6
        subst e5 e6
        have hc5 := (LGH.out.two.bel.cell (p := ⟨b5, o5 + k, none⟩) hb5).trans hd5
        have hn5b : n5l ≤ 9223372036854775807 := by
          obtain ⟨_, _, _, ee, h1, h2, _⟩ := hs5w
          injection ee with _ _ e3
          subst e3
          unfold maxLen at h2
          omega
        by_cases h120 : 120 < n5l
        · have h120I : (120 : Int) < n5l := by omega
          have HF := Lib.hid LGH.out.two.bel
          clear hs5w hl5 hd5
          go_wp2_with fail
          go_ret
          exact ⟨rfl, HF.out⟩
        · have h120I : (n5l : Int) ≤ 120 := by omega
          obtain rfl : l5.length = n5l := hn5
          obtain ⟨V2, hV2⟩ : ∃ V2, V2 = V.drew := ⟨_, rfl⟩
          have t2 : Turns [] V V2 := by rw [hV2]; exact (Turns.refl _ _).drew
          have lg2 := LGH.out.turn t2
          have hsl := lg2.two.argD hs5w
          obtain ⟨v6, V6, hr6, o6, t6⟩ := run_fresh_copy V2 hsl (Nat.le_refl _) (by omega) 34
          obtain ⟨A6, c6, rfl⟩ := own_formV o6
          have lg6 := lg2.turn t6
          have e2 := cellW t2 hc5
          have e2a := cellW ((Turns.refl [] V2).alloc (.cells #[] 5)) e2
          have e6 := cellW t6 e2
          have hszl := lg6.sz
          have hctl := lg6.ct
          have HWL := Lib.hid lg6.wl
          have AP := Lib.hid (TApp lg6.two (by simp; exact lg6.ne) sz ct lg6.a A6 c6 l5 (Sl.of_own o6) (by omega) (by omega) (by omega) (by have := lg6.wl; omega))
          have HB6 := Lib.hid lg6.b
          have HNE := Lib.hid lg6.ne
          have HFN := appR_fine st 6 sz ct l5 lg6.fine lg6.two.lens.1 (by omega) (by omega)
          obtain ⟨⟨sA, rc⟩, hrc⟩ : ∃ r, r = appR st 6 sz ct l5 := ⟨_, rfl⟩
          rw [← hrc] at HFN
          have HFN := Lib.hid HFN
          have AP2 := AP.out
          have HRC := Lib.hid hrc
          have HV2 := Lib.hid hV2
          clear hl5 hV2 t2 lg2 hsl o6 t6 lg6 hrc AP2
          go_upto_region 30 with fail
          refine reg_begin (fun W => W.cell? ⟨b5, o5 + k, none⟩ = some (.slice A5l l5.length c5l)) (fun _ => True) 24 24 #[false, false, false, false, false, false, false, false, false, false, false, false, false, false, false, false, false, false, false, false, false, false, false, false] (by kernel_rfl) (by kernel_rfl) (by kernel_rfl) ?_
          rw [← HV2.out]
          refine reg_take 0 128 23 #[true, false, false, false, false, false, false, false, false, false, false, false, false, false, false, false, false, false, false, false, false, false, false, false] (by rfl) (v := ?_) rfl rfl (by kernel_rfl) (by kernel_rfl) (by kernel_rfl) (by kernel_rfl) (fun _ _ _ h => h) (by rfl) ?_ (Till.mk' e2 trivial) ?_
          rotate_left
          · intro W hS; go_simp; all_goals with_reducible rfl
          try simp only [List.setIfInBounds_toArray, List.set_cons_succ, List.set_cons_zero]
          refine reg_take 2 130 22 #[true, false, true, false, false, false, false, false, false, false, false, false, false, false, false, false, false, false, false, false, false, false, false, false] (by rfl) (v := ?_) rfl rfl (by kernel_rfl) (by kernel_rfl) (by kernel_rfl) (by kernel_rfl) (fun _ _ _ h => h) (by rfl) ?_ (Till.mk' e2 trivial) ?_
          rotate_left
          · intro W hS; go_simp; all_goals with_reducible rfl
          try simp only [List.setIfInBounds_toArray, List.set_cons_succ, List.set_cons_zero]
          refine reg_take 3 131 21 #[true, false, true, true, false, false, false, false, false, false, false, false, false, false, false, false, false, false, false, false, false, false, false, false] (by rfl) (v := ?_) rfl rfl (by kernel_rfl) (by kernel_rfl) (by kernel_rfl) (by kernel_rfl) (fun _ _ _ h => h) (by rfl) ?_ (Till.mk' e2 trivial) ?_
          rotate_left
          · intro W hS; go_simp; all_goals with_reducible rfl
          try simp only [List.setIfInBounds_toArray, List.set_cons_succ, List.set_cons_zero]
          refine reg_take 4 132 20 #[true, false, true, true, true, false, false, false, false, false, false, false, false, false, false, false, false, false, false, false, false, false, false, false] (by rfl) (v := ?_) rfl rfl (by kernel_rfl) (by kernel_rfl) (by kernel_rfl) (by kernel_rfl) (fun _ _ _ h => h) (by rfl) ?_ (Till.mk' e2 trivial) ?_
          rotate_left
          · intro W hS; go_simp; all_goals with_reducible rfl
          try simp only [List.setIfInBounds_toArray, List.set_cons_succ, List.set_cons_zero]
          refine reg_take 5 133 19 #[true, false, true, true, true, true, false, false, false, false, false, false, false, false, false, false, false, false, false, false, false, false, false, false] (by rfl) (v := ?_) rfl rfl (by kernel_rfl) (by kernel_rfl) (by kernel_rfl) (by kernel_rfl) (fun _ _ _ h => h) (by rfl) ?_ (Till.mk' e2 trivial) ?_
          rotate_left
          · intro W hS; have c9 : W.cell? ⟨b5, o5 + k, none⟩ = some (.slice A5l l5.length c5l) := hS; go_simp; all_goals with_reducible rfl
          try simp only [List.setIfInBounds_toArray, List.set_cons_succ, List.set_cons_zero]
          refine reg_take 8 136 18 #[true, false, true, true, true, true, false, false, true, false, false, false, false, false, false, false, false, false, false, false, false, false, false, false] (by rfl) (v := ?_) rfl rfl (by kernel_rfl) (by kernel_rfl) (by kernel_rfl) (by kernel_rfl) (fun _ _ _ h => h) (by rfl) ?_ (Till.mk' e2 trivial) ?_
          rotate_left
          · intro W hS; go_simp; all_goals with_reducible rfl
          try simp only [List.setIfInBounds_toArray, List.set_cons_succ, List.set_cons_zero]
          refine reg_take 9 137 17 #[true, false, true, true, true, true, false, false, true, true, false, false, false, false, false, false, false, false, false, false, false, false, false, false] (by rfl) (v := ?_) rfl rfl (by kernel_rfl) (by kernel_rfl) (by kernel_rfl) (by kernel_rfl) (fun _ _ _ h => h) (by rfl) ?_ (Till.mk' e2 trivial) ?_
          rotate_left
          · intro W hS; go_simp; all_goals with_reducible rfl
          try simp only [List.setIfInBounds_toArray, List.set_cons_succ, List.set_cons_zero]
          refine reg_take 10 138 16 #[true, false, true, true, true, true, false, false, true, true, true, false, false, false, false, false, false, false, false, false, false, false, false, false] (by rfl) (v := ?_) rfl rfl (by kernel_rfl) (by kernel_rfl) (by kernel_rfl) (by kernel_rfl) (fun _ _ _ h => h) (by rfl) ?_ (Till.mk' e2 trivial) ?_
          rotate_left
          · intro W hS; go_simp; all_goals with_reducible rfl
          try simp only [List.setIfInBounds_toArray, List.set_cons_succ, List.set_cons_zero]
          refine reg_take 11 139 15 #[true, false, true, true, true, true, false, false, true, true, true, true, false, false, false, false, false, false, false, false, false, false, false, false] (by rfl) (v := ?_) rfl rfl (by kernel_rfl) (by kernel_rfl) (by kernel_rfl) (by kernel_rfl) (fun _ _ _ h => h) (by rfl) ?_ (Till.mk' e2 trivial) ?_
          rotate_left
          · intro W hS; go_simp; all_goals with_reducible rfl
          try simp only [List.setIfInBounds_toArray, List.set_cons_succ, List.set_cons_zero]
          refine reg_take 12 140 14 #[true, false, true, true, true, true, false, false, true, true, true, true, true, false, false, false, false, false, false, false, false, false, false, false] (by rfl) (v := ?_) rfl rfl (by kernel_rfl) (by kernel_rfl) (by kernel_rfl) (by kernel_rfl) (fun _ _ _ h => h) (by rfl) ?_ (Till.mk' e2 trivial) ?_
          rotate_left
          · intro W hS; have c9 : W.cell? ⟨b5, o5 + k, none⟩ = some (.slice A5l l5.length c5l) := hS; go_simp; all_goals with_reducible rfl
          try simp only [List.setIfInBounds_toArray, List.set_cons_succ, List.set_cons_zero]
          refine reg_one 1 13 #[true, true, true, true, true, true, false, false, true, true, true, true, true, false, false, false, false, false, false, false, false, false, false, false] (by kernel_rfl) rfl (by rfl) (by kernel_rfl) (fun K hK => ?_)
          go_simp
          refine hK _ _ (Till.mk' e2a trivial) ?_
          clear hK K
          try simp only [List.setIfInBounds_toArray, List.set_cons_succ, List.set_cons_zero]
          refine reg_one 6 12 #[true, true, true, true, true, true, true, false, true, true, true, true, true, false, false, false, false, false, false, false, false, false, false, false] (by kernel_rfl) rfl (by rfl) (by kernel_rfl) (fun K hK => ?_)
          refine wp_append_run (vs := .slice (some ⟨V2.heap.size, 0, none⟩) 0 0) (vx := .slice A5l l5.length c5l) (R := fun v w9 => .slice A6 l5.length c6 = v ∧ V6 = w9) _ (.tmp 129) (.tmp 133) rfl (by rfl) (by rfl) ⟨_, _, hr6, rfl, rfl⟩ ?_
          rintro _ _ ⟨rfl, rfl⟩
          refine hK _ _ (Till.mk' e6 trivial) ?_
          clear hK K
          try simp only [List.setIfInBounds_toArray, List.set_cons_succ, List.set_cons_zero]
          refine reg_one 7 11 #[true, true, true, true, true, true, true, true, true, true, true, true, true, false, false, false, false, false, false, false, false, false, false, false] (by kernel_rfl) rfl (by rfl) (by kernel_rfl) (fun K hK => ?_)
          go_simp
          refine AP.out.mono ?_
          rintro e y7 ⟨rfl, tw7, sm7, bl7⟩
          have e7 := (tw7.bel.cell (p := ⟨b5, o5 + k, none⟩) hb5).trans hd5
          have b7 := sm7.blk (x := xA) (by simp) HB6.out
          rw [← HRC.out] at tw7 bl7
          simp only at tw7 bl7
          refine hK _ _ (Till.mk' e7 trivial) ?_
          clear hK K
          try simp only [List.setIfInBounds_toArray, List.set_cons_succ, List.set_cons_zero]
          refine reg_one 13 10 #[true, true, true, true, true, true, true, true, true, true, true, true, true, true, false, false, false, false, false, false, false, false, false, false] (by kernel_rfl) rfl (by rfl) (by kernel_rfl) (fun K hK => ?_)
          go_simp
          have RP := TRApp (tw7.sub (Y := xA :: [gA]) (by intro x hx; simp at hx; rcases hx with rfl | rfl <;> simp)) (by simp; exact fun e => HNE.out e.symm) sz ct b7 A5l c5l l5 (tw7.argD hs5w) (by omega) (by omega) (by omega) (by have := HWL.out; omega)
          refine RP.mono ?_
          rintro e y8 ⟨rfl, tw8, sm8, bl8⟩
          have e8 := (tw8.bel.cell (p := ⟨b5, o5 + k, none⟩) hb5).trans hd5
          have b8 := sm8.blk (x := gA) (by simp) bl7
          rw [← HRC.out] at tw8 bl8 ⊢
          simp only at tw8 bl8 ⊢
          rw [ite_LG] at b8
          rw [ite_XLG] at bl8
          obtain ⟨szN, hsN⟩ : ∃ s : Nat, s = (if rc = 0 then sz + 8 + l5.length else sz) := ⟨_, rfl⟩
          obtain ⟨ctN, hcN⟩ : ∃ s : Nat, s = (if rc = 0 then ct + 1 else ct) := ⟨_, rfl⟩
          rw [← hsN, ← hcN] at b8 bl8
          have HNN := Lib.hid (And.intro hsN hcN)
          clear hsN hcN
          have n8 := bl8.cell 2
          simp only [XLG, List.getElem?_cons_zero, List.getElem?_cons_succ] at n8
          refine hK _ _ (Till.mk' e8 trivial) ?_
          clear hK K
          try simp only [List.setIfInBounds_toArray, List.set_cons_succ, List.set_cons_zero]
          refine reg_take 14 142 9 #[true, true, true, true, true, true, true, true, true, true, true, true, true, true, true, false, false, false, false, false, false, false, false, false] (by rfl) (v := ?_) rfl rfl (by kernel_rfl) (by kernel_rfl) (by kernel_rfl) (by kernel_rfl) (fun _ _ _ h => h) (by rfl) ?_ (Till.mk' e8 trivial) ?_
          rotate_left
          · intro W hS; go_simp; all_goals with_reducible rfl
          try simp only [List.setIfInBounds_toArray, List.set_cons_succ, List.set_cons_zero]
          refine reg_take 15 143 8 #[true, true, true, true, true, true, true, true, true, true, true, true, true, true, true, true, false, false, false, false, false, false, false, false] (by rfl) (v := ?_) rfl rfl (by kernel_rfl) (by kernel_rfl) (by kernel_rfl) (by kernel_rfl) (fun _ _ _ h => h) (by rfl) ?_ (Till.mk' e8 trivial) ?_
          rotate_left
          · intro W hS; go_simp; all_goals with_reducible rfl
          try simp only [List.setIfInBounds_toArray, List.set_cons_succ, List.set_cons_zero]
          refine reg_take 16 144 7 #[true, true, true, true, true, true, true, true, true, true, true, true, true, true, true, true, true, false, false, false, false, false, false, false] (by rfl) (v := ?_) rfl rfl (by kernel_rfl) (by kernel_rfl) (by kernel_rfl) (by kernel_rfl) (fun _ _ _ h => h) (by rfl) ?_ (Till.mk' e8 trivial) ?_
          rotate_left
          · intro W hS; go_simp; all_goals with_reducible rfl
          try simp only [List.setIfInBounds_toArray, List.set_cons_succ, List.set_cons_zero]
          refine reg_take 18 146 6 #[true, true, true, true, true, true, true, true, true, true, true, true, true, true, true, true, true, false, true, false, false, false, false, false] (by rfl) (v := ?_) rfl rfl (by kernel_rfl) (by kernel_rfl) (by kernel_rfl) (by kernel_rfl) (fun _ _ _ h => h) (by rfl) ?_ (Till.mk' e8 trivial) ?_
          rotate_left
          · intro W hS; go_simp; all_goals with_reducible rfl
          try simp only [List.setIfInBounds_toArray, List.set_cons_succ, List.set_cons_zero]
          refine reg_take 19 147 5 #[true, true, true, true, true, true, true, true, true, true, true, true, true, true, true, true, true, false, true, true, false, false, false, false] (by rfl) (v := ?_) rfl rfl (by kernel_rfl) (by kernel_rfl) (by kernel_rfl) (by kernel_rfl) (fun _ _ _ h => h) (by rfl) ?_ (Till.mk' e8 trivial) ?_
          rotate_left
          · intro W hS; go_simp; all_goals with_reducible rfl
          try simp only [List.setIfInBounds_toArray, List.set_cons_succ, List.set_cons_zero]
          refine reg_take 20 148 4 #[true, true, true, true, true, true, true, true, true, true, true, true, true, true, true, true, true, false, true, true, true, false, false, false] (by rfl) (v := ?_) rfl rfl (by kernel_rfl) (by kernel_rfl) (by kernel_rfl) (by kernel_rfl) (fun _ _ _ h => h) (by rfl) ?_ (Till.mk' e8 trivial) ?_
          rotate_left
          · intro W hS; go_simp; all_goals with_reducible rfl
          try simp only [List.setIfInBounds_toArray, List.set_cons_succ, List.set_cons_zero]
          refine reg_two 17 21 3 #[true, true, true, true, true, true, true, true, true, true, true, true, true, true, true, true, true, true, true, true, true, false, false, false] #[true, true, true, true, true, true, true, true, true, true, true, true, true, true, true, true, true, false, true, true, true, true, false, false] (by kernel_rfl) rfl rfl (by rfl) (by rfl) (by kernel_rfl) (by kernel_rfl) (fun K hK => ?_) (fun K hK => ?_)
          go_simp
          refine (Count_any y8 gA g _ _ b8).mono ?_
          rintro e ww ⟨rfl, rfl⟩
          refine hK _ _ (Till.mk' e8 trivial) ?_
          clear hK K
          try simp only [List.setIfInBounds_toArray, List.set_cons_succ, List.set_cons_zero]
          refine reg_one 21 2 #[true, true, true, true, true, true, true, true, true, true, true, true, true, true, true, true, true, true, true, true, true, true, false, false] (by kernel_rfl) rfl (by rfl) (by kernel_rfl) (fun K hK => ?_)
          go_simp
          refine hK _ _ (Till.mk' e8 trivial) ?_
          clear hK K
          try simp only [List.setIfInBounds_toArray, List.set_cons_succ, List.set_cons_zero]
          refine reg_take 22 150 1 #[true, true, true, true, true, true, true, true, true, true, true, true, true, true, true, true, true, true, true, true, true, true, true, false] (by rfl) (v := ?_) rfl rfl (by kernel_rfl) (by kernel_rfl) (by kernel_rfl) (by kernel_rfl) (fun _ _ _ h => h) (by rfl) ?_ (Till.mk' e8 trivial) ?_
          rotate_left
          · intro W hS; go_simp; all_goals with_reducible rfl
          try simp only [List.setIfInBounds_toArray, List.set_cons_succ, List.set_cons_zero]
          refine reg_take 23 151 0 #[true, true, true, true, true, true, true, true, true, true, true, true, true, true, true, true, true, true, true, true, true, true, true, true] (by rfl) (v := ?_) rfl rfl (by kernel_rfl) (by kernel_rfl) (by kernel_rfl) (by kernel_rfl) (fun _ _ _ h => h) (by rfl) ?_ (Till.mk' e8 trivial) ?_
          rotate_left
          · intro W hS; go_simp; all_goals with_reducible rfl
          try simp only [List.setIfInBounds_toArray, List.set_cons_succ, List.set_cons_zero]
          refine reg_done (by kernel_rfl) ?_ _
          rotate_left 1
          go_simp
          refine hK _ _ (Till.mk' e8 trivial) ?_
          clear hK K
          try simp only [List.setIfInBounds_toArray, List.set_cons_succ, List.set_cons_zero]
          refine reg_one 17 2 #[true, true, true, true, true, true, true, true, true, true, true, true, true, true, true, true, true, true, true, true, true, true, false, false] (by kernel_rfl) rfl (by rfl) (by kernel_rfl) (fun K hK => ?_)
          go_simp
          refine (Count_any y8 gA g _ _ b8).mono ?_
          rintro e ww ⟨rfl, rfl⟩
          refine hK _ _ (Till.mk' e8 trivial) ?_
          clear hK K
          try simp only [List.setIfInBounds_toArray, List.set_cons_succ, List.set_cons_zero]
          refine reg_take 22 150 1 #[true, true, true, true, true, true, true, true, true, true, true, true, true, true, true, true, true, true, true, true, true, true, true, false] (by rfl) (v := ?_) rfl rfl (by kernel_rfl) (by kernel_rfl) (by kernel_rfl) (by kernel_rfl) (fun _ _ _ h => h) (by rfl) ?_ (Till.mk' e8 trivial) ?_
          rotate_left
          · intro W hS; go_simp; all_goals with_reducible rfl
          try simp only [List.setIfInBounds_toArray, List.set_cons_succ, List.set_cons_zero]
          refine reg_take 23 151 0 #[true, true, true, true, true, true, true, true, true, true, true, true, true, true, true, true, true, true, true, true, true, true, true, true] (by rfl) (v := ?_) rfl rfl (by kernel_rfl) (by kernel_rfl) (by kernel_rfl) (by kernel_rfl) (fun _ _ _ h => h) (by rfl) ?_ (Till.mk' e8 trivial) ?_
          rotate_left
          · intro W hS; go_simp; all_goals with_reducible rfl
          try simp only [List.setIfInBounds_toArray, List.set_cons_succ, List.set_cons_zero]
          refine reg_done (by kernel_rfl) ?_ _
          all_goals
            have hf1 : sA.fine 6 := HFN.out.1
            have hf2 : sA.writes.length ≤ st.writes.length + 10 := HFN.out.2.1
            have hf3 : rc = 0 → sz + 8 + l5.length ≤ 320 := fun h => by have := HFN.out.2.2 h; omega
            have hw8 := HWL.out
            have hz1 : szN ≤ 320 := by
              rw [HNN.out.1]
              split
              · exact hf3 (by assumption)
              · omega
            have hz2 : ctN ≤ 100000 + (k + 1) := by rw [HNN.out.2]; split <;> omega
            have lgz : Logs w y8 g xg gA xA szN ctN sA (k + 1) := ⟨tw8.sub (Y := [gA, xA]) (by intro x hx; simp at hx; rcases hx with rfl | rfl <;> simp), HNE.out, b8, bl8, hz1, hz2, hf1, by omega⟩
            have LGZ := Lib.hid lgz
            clear lgz hf1 hf2 hf3 hw8 hz1 hz2
            clear tw8 sm8 bl8 b8 n8 tw7 sm7 bl7 b7 e7 e8 RP e2 e2a e6 hr6 AP HB6 hs5w hd5
            have SM := Lib.hid (Tsame LGZ.out.two)
            go_wp2_with fail
            refine SM.out.mono ?_
            rintro e z9 ⟨rfl, t9⟩
            have HFZ := Lib.hid (LGZ.out.turn t9)
            clear t9 SM
            go_wp2_with fail
            go_roundw
            case rel => exact ⟨k + 1, gA, xA, _, _, _, by omega, by go_num, rfl, rfl, HFZ.out⟩
            case measure => (simp [intOf] <;> omega)
    · have hklI : ¬ (k : Int) < nl := by omega
      by_cases hka : k < acts.length
      · have hkaI : (k : Int) < acts.length := by omega
        obtain ⟨ba, oa, e1, hba, hca⟩ := acts_get HL.out.2.1 hka
        subst e1
        obtain ⟨ac, hac⟩ : ∃ ac, ac = acts[k] := ⟨_, rfl⟩
        rw [← hac] at hca
        have hgd := HL.out.2.2 _ (List.getElem_mem hka)
        have hsml := HSM.out _ (List.getElem_mem hka)
        rw [← hac] at hgd hsml
        obtain ⟨vB, hvB⟩ : ∃ v, v = Value.slice ac.AB ac.bs.length ac.cB := ⟨_, rfl⟩
        obtain ⟨vP, hvP⟩ : ∃ v, v = Value.slice ac.AP ac.ps.length ac.cP := ⟨_, rfl⟩
        obtain ⟨cs, hcs⟩ : ∃ cs, cs = ac.cells := ⟨_, rfl⟩
        have hcs2 : cs = AC ac.kd ac.P ac.N vB vP := by rw [hcs, hvB, hvP]; rfl
        rw [← hcs] at hca
        have hrange : V.rangeAt ba (oa + k * 5) cs := by
          intro j v hv
          have h1 := hca j v hv
          rw [show oa + (k * 5 + j) = oa + k * 5 + j by omega] at h1
          exact (LGH.out.two.bel.cell (p := ⟨ba, oa + k * 5 + j, none⟩) hba).trans h1
        have h5c : cs.length = 5 := by rw [hcs]; rfl
        have hon : ∀ u ∈ cs, u.oneCell' = true := by
          rw [hcs]
          intro u hu
          simp [ActA.cells, AC] at hu
          rcases hu with rfl | rfl | rfl | rfl | rfl <;> rfl
        have hszw : (Try.prog.info? 76).map (·.size) = some cs.length := by rw [h5c]; kernel_rfl
        obtain ⟨Z, hZs, hz⟩ : ∃ Z : Array Value, Z.size = 5 ∧ ∀ w, (zeroValue 76).run Try.prog w = .ok (.agg Z) w :=
          ⟨#[.int .i64 0, .int .i64 0, .int .i64 0, .slice none 0 0, .slice none 0 0], rfl, fun w => by kernel_rfl⟩
        have hZ0 : ¬ Z = #[] := by intro e; rw [e] at hZs; simp at hZs
        obtain ⟨W3, hst, hB3, t3⟩ := store_var (P := Try.prog) V Z 76 cs (by rw [h5c, hZs]) hon
        obtain ⟨q, hq⟩ : ∃ q, q = V.heap.size := ⟨_, rfl⟩
        rw [hcs2, ← hq] at hB3
        have W9 := Lib.hid fun (kd : Int) (h : -9223372036854775808 ≤ kd ∧ kd ≤ 9223372036854775807) (W : World) => within_any kd 9 W h.1 h.2 (by omega) (by omega)
        have HAC := Lib.hid (And.intro hgd (And.intro hsml (And.intro hvB hvP)))
        have two3 := LGH.out.two.more t3 (by omega : V.heap.size ≤ q) hB3.lt
        have HLG3 := Lib.hid (And.intro (LGH.out.turn t3) (And.intro two3 hB3))
        have HQ := Lib.hid hq
        have hqA : gA ≠ q ∧ xA ≠ q := ⟨by have := LGH.out.a.lt; omega, by have := LGH.out.b.lt; omega⟩
        have q0 := hB3.cell 0
        have q2 := hB3.cell 2
        have f0 := hB3.free 0
        simp only [AC, List.getElem?_cons_zero, List.getElem?_cons_succ] at q0 q2
        have hkdb := hgd.1
        have hNb := hgd.2.2.1
        clear hca hac hgd hsml hvB hvP hcs hcs2 hon hB3 t3 two3 hq hba
        go_upto_region 14 with (first
          | (refine wpList_load_mid rfl 76 (.tmp 72) rfl ba (oa + k * 5) rfl _ _ hrange Try.underlying76 rfl hszw ?_)
          | fail)
        rw [← HQ.out]
        clear hrange hszw hst hz hZs hZ0 h5c
        go_wp2_with fail
        refine (W9.out ac.kd hkdb W3).mono ?_
        rintro e ww ⟨rfl, rfl⟩
        obtain ⟨k9, hk9⟩ : ∃ k9, k9 = ac.kd % 9 := ⟨_, rfl⟩
        rw [← hk9]
        have hk9b : 0 ≤ k9 ∧ k9 ≤ 8 := by omega
        obtain ⟨n3, hn3⟩ : ∃ n3, n3 = ac.N.tmod 3 := ⟨_, rfl⟩
        have hcase : (k9 < 6 ∨ (¬ k9 < 6 ∧ k9 = 8 ∧ 0 < n3)) ∨ (k9 = 6 ∨ k9 = 7 ∨ (k9 = 8 ∧ ¬ 0 < n3)) := by omega
        have HK9 := Lib.hid hk9
        have HN3 := Lib.hid hn3
        clear hk9
        rcases hcase with hcase | hcase
        · -- it stops
          obtain ⟨W4, hW4⟩ : ∃ W4, W4 = W3.setCell ⟨q, 0, none⟩ (.int .i64 6) := ⟨_, rfl⟩
          have t4 : Turns [q] W3 W4 := by rw [hW4]; exact (Turns.refl [q] W3).setCell (p := ⟨q, 0, none⟩) (.inl (by simp)) _
          have b4 := HLG3.out.2.2.set 0 (.int .i64 6)
          simp only [AC, List.set_cons_zero] at b4
          rw [← hW4] at b4
          have twq := HLG3.out.2.1.turn t4 (by simp)
          have lgq : Logs w W4 g xg gA xA sz ct st k := ⟨twq.sub (fun x hx => List.mem_cons_of_mem _ hx), HLG3.out.1.ne, HLG3.out.1.a.turns t4 (by simpa using hqA.1), HLG3.out.1.b.turns t4 (by simpa using hqA.2), HLG3.out.1.sz, HLG3.out.1.ct, HLG3.out.1.fine, HLG3.out.1.wl⟩
          have HW4 := Lib.hid hW4
          have HB4 := Lib.hid (And.intro b4 (And.intro twq lgq))
          clear hW4 t4 b4 twq lgq
          rcases hcase with h1 | ⟨h0, h1, h2⟩
          case' inr => subst h1
          all_goals
            rw [hn3] at *
            go_upto_region 17 with fail
            rw [← HW4.out]
            have bqU := HB4.out.1
            have hr4 := bqU.range 0 5
            rw [List.drop_zero, List.take_of_length_le (by simp)] at hr4
            have hsz4 : (Try.prog.info? 76).map (·.size) = some ([.int .i64 6, .int .i64 ac.P, .int .i64 ac.N, vB, vP] : List Value).length := by kernel_rfl
            have DOc := Do_any HB4.out.2.1 6 ac.P ac.N ac.AB ac.AP 0 ac.cB 0 ac.cP ac.bs ac.ps (.inl rfl) ⟨by omega, by omega⟩ HAC.out.1.2.1 HAC.out.1.2.2.1 HAC.out.1.2.2.2.1 HAC.out.1.2.2.2.2.1 HAC.out.1.2.2.2.2.2 HAC.out.2.1.1 HAC.out.2.1.2 LGH.out.fine (by have := LGH.out.wl; omega)
            rw [← HAC.out.2.2.1, ← HAC.out.2.2.2] at DOc
            have DOc := Lib.hid DOc
            go_wp2_with (first
              | (refine wpList_load_mid rfl 76 (.tmp 16) rfl q 0 rfl _ _ hr4 Try.underlying76 rfl hsz4 ?_)
              | fail)
            refine DOc.out.mono ?_
            rintro e y1 ⟨rfl, st1, tw1, sm1, fn1, wl1, lf1⟩
            have bq1 := sm1.blk (x := q) (by simp) bqU
            have q0b := bq1.cell 0
            simp only [List.getElem?_cons_zero] at q0b
            have hw8 := LGH.out.wl
            have lg1 : Logs w y1 g xg gA xA sz ct st1 k := ⟨tw1.sub (fun x hx => List.mem_cons_of_mem _ hx), LGH.out.ne, sm1.blk (x := gA) (by simp) HB4.out.2.2.a, sm1.blk (x := xA) (by simp) HB4.out.2.2.b, LGH.out.sz, LGH.out.ct, fn1, by omega⟩
            have LG1 := Lib.hid lg1
            clear lg1 hw8 tw1 sm1 fn1 wl1 lf1 bq1 hr4 hsz4 DOc bqU
            go_wp2_with fail
            refine (W9.out 6 ⟨by omega, by omega⟩ y1).mono ?_
            rintro e ww ⟨rfl, rfl⟩
            clear W9
            have LGZ := Lib.hid (show Logs w y1 g xg gA xA sz ct st1 (k + 1) from ⟨LG1.out.two, LG1.out.ne, LG1.out.a, LG1.out.b, LG1.out.sz, by have := LG1.out.ct; omega, LG1.out.fine, by have := LG1.out.wl; omega⟩)
            have SM := Lib.hid (Tsame LGZ.out.two)
            go_wp2_with fail
            refine SM.out.mono ?_
            rintro e z9 ⟨rfl, t9⟩
            have HFZ := Lib.hid (LGZ.out.turn t9)
            clear t9 SM
            go_wp2_with fail
            go_roundw
            case rel => exact ⟨k + 1, gA, xA, _, _, _, by omega, by go_num, rfl, rfl, HFZ.out⟩
            case measure => (simp [intOf] <;> omega)
        · have bqU := HLG3.out.2.2
          simp only [AC] at bqU
          rcases hcase with rfl | hcase
          · go_upto_region 17 with fail
            have hr4 := bqU.range 0 5
            rw [List.drop_zero, List.take_of_length_le (by simp)] at hr4
            have hsz4 : (Try.prog.info? 76).map (·.size) = some ([.int .i64 ac.kd, .int .i64 ac.P, .int .i64 ac.N, vB, vP] : List Value).length := by kernel_rfl
            have DOc := Do_any HLG3.out.2.1 ac.kd ac.P ac.N ac.AB ac.AP 0 ac.cB 0 ac.cP ac.bs ac.ps (by have := HK9.out; omega) hkdb HAC.out.1.2.1 HAC.out.1.2.2.1 HAC.out.1.2.2.2.1 HAC.out.1.2.2.2.2.1 HAC.out.1.2.2.2.2.2 HAC.out.2.1.1 HAC.out.2.1.2 LGH.out.fine (by have := LGH.out.wl; omega)
            rw [← HAC.out.2.2.1, ← HAC.out.2.2.2] at DOc
            have DOc := Lib.hid DOc
            go_wp2_with (first
              | (refine wpList_load_mid rfl 76 (.tmp 16) rfl q 0 rfl _ _ hr4 Try.underlying76 rfl hsz4 ?_)
              | fail)
            refine DOc.out.mono ?_
            rintro e y1 ⟨rfl, st1, tw1, sm1, fn1, wl1, lf1⟩
            have bq1 := sm1.blk (x := q) (by simp) bqU
            have q0b := bq1.cell 0
            simp only [List.getElem?_cons_zero] at q0b
            have hw8 := LGH.out.wl
            have lg1 : Logs w y1 g xg gA xA sz ct st1 k := ⟨tw1.sub (fun x hx => List.mem_cons_of_mem _ hx), LGH.out.ne, sm1.blk (x := gA) (by simp) HLG3.out.1.a, sm1.blk (x := xA) (by simp) HLG3.out.1.b, LGH.out.sz, LGH.out.ct, fn1, by omega⟩
            have LG1 := Lib.hid lg1
            clear lg1 hw8 tw1 sm1 fn1 wl1 lf1 bq1 hr4 hsz4 DOc bqU
            go_wp2_with fail
            refine (W9.out ac.kd hkdb y1).mono ?_
            rintro e ww ⟨rfl, rfl⟩
            rw [← HK9.out]
            clear W9
            have LGZ := Lib.hid (show Logs w y1 g xg gA xA sz ct st1 (k + 1) from ⟨LG1.out.two, LG1.out.ne, LG1.out.a, LG1.out.b, LG1.out.sz, by have := LG1.out.ct; omega, LG1.out.fine, by have := LG1.out.wl; omega⟩)
            have SM := Lib.hid (Tsame LGZ.out.two)
            go_wp2_with fail
            refine SM.out.mono ?_
            rintro e z9 ⟨rfl, t9⟩
            have HFZ := Lib.hid (LGZ.out.turn t9)
            clear t9 SM
            go_wp2_with fail
            go_roundw
            case rel => exact ⟨k + 1, gA, xA, _, _, _, by omega, by go_num, rfl, rfl, HFZ.out⟩
            case measure => (simp [intOf] <;> omega)
          · have h78 : (k9 = 7 ∧ True) ∨ (k9 = 8 ∧ ¬ 0 < n3) := by
              rcases hcase with h | h
              · exact .inl ⟨h, trivial⟩
              · exact .inr h
            clear hcase
            rcases h78 with ⟨rfl, h2⟩ | ⟨rfl, h2⟩
            all_goals
              rw [hn3] at *
              go_upto_region 17 with fail
              have hr4 := bqU.range 0 5
              rw [List.drop_zero, List.take_of_length_le (by simp)] at hr4
              have hsz4 : (Try.prog.info? 76).map (·.size) = some ([.int .i64 ac.kd, .int .i64 ac.P, .int .i64 ac.N, vB, vP] : List Value).length := by kernel_rfl
              have DOc := Do_any HLG3.out.2.1 ac.kd ac.P ac.N ac.AB ac.AP 0 ac.cB 0 ac.cP ac.bs ac.ps (by have := HK9.out; omega) hkdb HAC.out.1.2.1 HAC.out.1.2.2.1 HAC.out.1.2.2.2.1 HAC.out.1.2.2.2.2.1 HAC.out.1.2.2.2.2.2 HAC.out.2.1.1 HAC.out.2.1.2 LGH.out.fine (by have := LGH.out.wl; omega)
              rw [← HAC.out.2.2.1, ← HAC.out.2.2.2] at DOc
              have DOc := Lib.hid DOc
              go_wp2_with (first
                | (refine wpList_load_mid rfl 76 (.tmp 16) rfl q 0 rfl _ _ hr4 Try.underlying76 rfl hsz4 ?_)
                | fail)
              refine DOc.out.mono ?_
              rintro e y1 ⟨rfl, st1, tw1, sm1, fn1, wl1, lf1⟩
              have bq1 := sm1.blk (x := q) (by simp) bqU
              have q0b := bq1.cell 0
              simp only [List.getElem?_cons_zero] at q0b
              have hw8 := LGH.out.wl
              have lg1 : Logs w y1 g xg gA xA sz ct st1 k := ⟨tw1.sub (fun x hx => List.mem_cons_of_mem _ hx), LGH.out.ne, sm1.blk (x := gA) (by simp) HLG3.out.1.a, sm1.blk (x := xA) (by simp) HLG3.out.1.b, LGH.out.sz, LGH.out.ct, fn1, by omega⟩
              have LG1 := Lib.hid lg1
              clear lg1 hw8 tw1 sm1 fn1 wl1 lf1 bq1 hr4 hsz4 DOc bqU
              go_wp2_with fail
              refine (W9.out ac.kd hkdb y1).mono ?_
              rintro e ww ⟨rfl, rfl⟩
              rw [← HK9.out]
              clear W9
              have OP := Lib.hid (TOpen LG1.out.two)
              cases hdd : st1.dead
              · cases hbb : st1.look.bad
                · go_wp2_with fail
                  refine OP.out.mono ?_
                  rintro e y2 op
                  obtain ⟨gA2, Aq, nq, cq, rfl, baq, hgq, _⟩ := op.good hdd hbb
                  have t2 := op.turns
                  have RO := Lib.hid (TROpen (LG1.out.two.turn t2 (by simp)) hdd)
                  have H2q := Lib.hid (And.intro t2 (And.intro baq hgq))
                  clear op t2 baq hgq OP
                  go_wp2_with fail
                  refine RO.out.mono ?_
                  rintro e y3 ⟨t3, _, hgood⟩
                  obtain ⟨xA2, Ar, nr, cr, rfl, bbq, hgr, _⟩ := hgood hbb
                  obtain ⟨sz2, ct2, lg2⟩ := Logs.open_ (e1 := 0) (e2 := 0) (k := k) LG1.out.two hbb H2q.out.1 H2q.out.2.1 H2q.out.2.2 t3 bbq hgr LG1.out.fine LG1.out.wl
                  have LG2 := Lib.hid lg2
                  clear t3 hgood bbq hgr lg2 RO
                  have LGZ := Lib.hid (show Logs w y3 g xg gA2 xA2 sz2 ct2 st1 (k + 1) from ⟨LG2.out.two, LG2.out.ne, LG2.out.a, LG2.out.b, LG2.out.sz, by have := LG2.out.ct; omega, LG2.out.fine, by have := LG2.out.wl; omega⟩)
                  have SM := Lib.hid (Tsame LGZ.out.two)
                  go_wp2_with fail
                  refine SM.out.mono ?_
                  rintro e z9 ⟨rfl, t9⟩
                  have HFZ := Lib.hid (LGZ.out.turn t9)
                  clear t9 SM
                  go_wp2_with fail
                  go_roundw
                  case rel => exact ⟨k + 1, gA2, xA2, _, _, _, by omega, by go_num, rfl, rfl, HFZ.out⟩
                  case measure => (simp [intOf] <;> omega)
                · go_wp2_with fail
                  refine OP.out.mono ?_
                  rintro e y2 op
                  have he := op.bad hdd hbb
                  subst he
                  have t2 := op.turns
                  have RO := Lib.hid (TROpen (LG1.out.two.turn t2 (by simp)) hdd)
                  have T2q := Lib.hid t2
                  clear op t2 OP
                  go_wp2_with fail
                  refine RO.out.mono ?_
                  rintro e y3 ⟨t3, hb3, _⟩
                  have he := hb3 hbb
                  subst he
                  have HF := Lib.hid ((LG1.out.two.turn T2q.out (by simp)).turn t3 (by simp)).bel
                  clear t3 hb3 RO
                  go_wp2_with fail
                  go_ret
                  exact ⟨rfl, HF.out⟩
              · go_wp2_with fail
                refine OP.out.mono ?_
                rintro e y2 op
                have he := op.gone hdd
                subst he
                have t2 := op.turns
                have RO := Lib.hid (TROpen_dead (LG1.out.two.turn t2 (by simp)) hdd)
                have HF := Lib.hid (LG1.out.two.turn t2 (by simp)).bel
                clear op t2 OP
                go_wp2_with fail
                refine RO.out.mono ?_
                rintro e y3 ⟨rfl, rfl⟩
                go_wp2_with fail
                go_ret
                exact ⟨rfl, HF.out⟩
      · have hkaI : ¬ (k : Int) < acts.length := by omega
        have HF := Lib.hid LGH.out.two.bel
        clear LGH
        go_wp2_with fail
        go_ret
        exact ⟨rfl, HF.out⟩
end Go.Proofs.Ytdhbaepmbgoobaa
