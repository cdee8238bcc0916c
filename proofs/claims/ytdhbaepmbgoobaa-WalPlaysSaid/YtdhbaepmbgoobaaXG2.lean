/- The document's log: Append. Append, where there is no room, or the power is gone: the document's, the program's. -/
import Derived.Test.YtdhbaepmbgoobaaXG0
import Derived.Test.YtdhbaepmbgoobaaWr
namespace Go.Proofs.Ytdhbaepmbgoobaa
open Go.RowKit
set_option linter.unusedVariables false
set_option maxRecDepth 10000
set_option linter.unusedSimpArgs false
set_option linter.unnecessarySimpa false

section
variable {w0 w w' : World} {g xg p : Nat} {st sx : DS} {X : List Nat}
theorem TRRead (h : Two w0 w g xg p st sx X) (n : Nat) (hn : n < p) (hd : sx.dead = false) :
    Calls Try.prog 55 #[.pointer (some ⟨xg, 0, none⟩), .int .i64 n] w fun e w' => ∃ v', e = .returned (.tuple #[v', .int .i64 0]) ∧ w'.ownsRow w.heap.size 5 1 v' 64 (bvs (pageAt sx.now n)) ∧ Turns [] w w' := by
  obtain ⟨D, xd, B, Bx, rfl, rfl, h⟩ := h
  exact RRead_any w Bx xd p n sx h.x hn hd
theorem TRSync (h : Two w0 w g xg p st sx X) :
    Calls Try.prog 51 #[.pointer (some ⟨xg, 0, none⟩)] w (CDone w0 w g xg p st sx.sync X sx.syncCode) := by
  obtain ⟨D, xd, B, Bx, rfl, rfl, h⟩ := h
  refine (RSync_any w Bx xd p sx h.x).mono fun e w' hq => ?_
  obtain ⟨he, D', hk⟩ := hq
  exact ⟨he, h.ref hk⟩
theorem Two.xcells (h : Two w0 w g xg p st sx X) : ∃ n cn, w.cell? ⟨xg, 0, none⟩ = some (.slice (some ⟨n, 0, none⟩) p cn) ∧ w.cell? ⟨xg, 4, none⟩ = some (.bool sx.dead) := by
  obtain ⟨D, xd, B, Bx, rfl, rfl, h⟩ := h
  exact ⟨xd.n, xd.cn, by have := h.x.head.cell 0; simpa only [RL.head, List.getElem?_cons_zero] using this, by have := h.x.head.cell 4; simpa only [RL.head, List.getElem?_cons_zero, List.getElem?_cons_succ] using this⟩
theorem Two.lens (h : Two w0 w g xg p st sx X) : sx.now.length = p * 64 ∧ sx.synced.length = p * 64 := by
  obtain ⟨D, xd, B, Bx, rfl, rfl, h⟩ := h
  exact ⟨h.x.lenN, h.x.lenS⟩
end
theorem run_rng (A : Option Addr) (n c k h : Nat) (hk : k ≤ h) (hh : h ≤ n) (hc : n ≤ c) (w : World) : (Instr.sliceAt 34 (.slice A n c) (some (.int .i64 (k : Int))) (some (.int .i64 (h : Int))) none).run Try.prog w = .ok (.slice (adr A c k) (h - k) (c - k)) w := by
  have z1 : (k : Int) ≤ (c : Int) := by omega
  have z2 : (h : Int) ≤ (c : Int) := by omega
  have z3 : (k : Int) ≤ (h : Int) := by omega
  unfold adr
  go_simp
/-- The loop: what is left to be written. -/
def RapR (w0 : World) (g xg p : Nat) (X : List Nat) (st : DS) (Y0 : World) (res : DS × Int) (b0 : List UInt8) (k0 : Nat) (pv i : Value) (wr : World) : Prop :=
  ∃ (m iv pk : Nat) (s1 : DS), pv = .int .i64 pk ∧ i = .int .i64 iv ∧ pk = k0 + m ∧ iv = 64 * m ∧ iv ≤ b0.length + 63 ∧ Two w0 wr g xg p st s1 X ∧ Same X Y0 wr ∧ s1.dead = false ∧ s1.writes.length ≤ 900000 + m ∧ res = wchunks (b0.drop iv).length s1 pk (b0.drop iv)
/-- What Append leaves. -/
structure RApped (w0 w : World) (g xg p : Nat) (st sx : DS) (gl : Nat) (X : List Nat) (size ct : Nat) (bs : List UInt8) (e : Ending) (w' : World) : Prop where
  code : e = .returned (.int .i64 (sx.append size ct bs).2)
  two : Two w0 w' g xg p st (sx.append size ct bs).1 (gl :: X)
  same : Same X w w'
  log : Blk w' gl (if (sx.append size ct bs).2 = 0 then XLG xg ((size + 8 + bs.length : Nat) : Int) ((ct + 1 : Nat) : Int) else XLG xg size ct) 79

set_option maxRecDepth 100000 in
set_option maxHeartbeats 16000000 in
theorem RAppend_any {w0 w : World} {g xg p : Nat} {st sx : DS} {gl : Nat} {X : List Nat} (h : Two w0 w g xg p st sx (gl :: X)) (hg : gl ∉ X) (size ct : Nat) (hb : Blk w gl (XLG xg size ct) 79)
    (A : Option Addr) (c : Nat) (bs : List UInt8) (hs : Sl w w.heap.size 1 (.slice A bs.length c) bs.length (bvs bs)) (hd : sx.dead = false) (hlen : bs.length ≤ 65536) (hroom : size + 8 + bs.length ≤ (p - 1) * 64) (hct : ct ≤ 1000000) (hwl : sx.writes.length ≤ 900000) :
    Calls Try.prog 28 #[.pointer (some ⟨gl, 0, none⟩), .slice A bs.length c] w (RApped w0 w g xg p st sx gl X size ct bs) := by
  have hp := h.pages
  obtain ⟨xn, xcn, x0, x4⟩ := h.xcells
  rw [hd] at x4
  have c0 := hb.cell 0
  have c1 := hb.cell 1
  have c2 := hb.cell 2
  simp only [XLG, List.getElem?_cons_zero, List.getElem?_cons_succ] at c0 c1 c2
  have hpb : (p : Int) ≤ 4096 ∧ 2 ≤ (p : Int) := by omega
  have h65 : (bs.length : Int) ≤ 65536 := by omega
  have hfr : (bs.length : Int) + 8 ≤ ((p : Int) - 1) * 64 - (size : Int) := by omega
  have hsz : (size : Int) ≤ 300000 := by omega
  have hszN : size ≤ 300000 := by omega
  have hpl := pageAt_length sx.now (1 + size / 64) p h.lens.1 (by omega)
  obtain ⟨b0, hb0⟩ : ∃ b0, b0 = sx.pagesB size (recBytes bs) := ⟨_, rfl⟩
  obtain ⟨k0, hk0⟩ : ∃ k0, k0 = 1 + size / 64 := ⟨_, rfl⟩
  obtain ⟨res, hres⟩ : ∃ res, res = wchunks (sx.pagesB size (recBytes bs)).length sx (1 + size / 64) (sx.pagesB size (recBytes bs)) := ⟨_, rfl⟩
  have pok := pages_ok sx size (recBytes bs)
  have pno := pages_no sx size (recBytes bs)
  rw [← hres] at pok pno
  rw [← hb0, ← hk0] at hres
  have hb0' := hb0
  unfold DS.pagesB at hb0'
  rw [← hk0] at hb0' hpl
  have hrl := recBytes_len bs
  have hl0 : b0.length = size % 64 + (8 + bs.length) := by rw [hb0', List.length_append, List.length_take, hpl, hrl]; omega
  have hkp : k0 < p := by omega
  have hkr : (k0 - 1) * 64 + b0.length ≤ (p - 1) * 64 := by omega
  have hk1 : 1 ≤ k0 := by omega
  have k1 := append_no sx
  have k2 := append_mid sx
  have k3 := append_end sx
  have H0 := Lib.hid (And.intro h (And.intro hb (And.intro hs hg)))
  have HP := Lib.hid (And.intro pok (And.intro pno (And.intro k1 (And.intro k2 k3))))
  have HR := Lib.hid hres
  have HB := Lib.hid hb0'
  have HL := Lib.hid (And.intro hl0 (And.intro hkr hwl))
  have HD := Lib.hid hd
  have HK := Lib.hid (show ((size : Int) / 64) + 1 = k0 by omega)
  have hqb : 0 ≤ (size : Int) / 64 ∧ (size : Int) / 64 ≤ 10000 := by omega
  have S0 : (w.drew.cell? ⟨gl, 0, none⟩ = some (.pointer (some ⟨xg, 0, none⟩)) ∧ w.drew.cell? ⟨gl, 1, none⟩ = some (.int .i64 size)) ∧ w.drew.cell? ⟨xg, 0, none⟩ = some (.slice (some ⟨xn, 0, none⟩) p xcn) := ⟨⟨c0, c1⟩, x0⟩
  have hw1 : IntKind.i64.wrap ((p : Int) - 1) = (p : Int) - 1 := by rw [IntKind.wrap_i64]; omega
  have hw2 : IntKind.i64.wrap (((p : Int) - 1) * 64) = ((p : Int) - 1) * 64 := by rw [IntKind.wrap_i64]; omega
  have hw3 : IntKind.i64.wrap (((p : Int) - 1) * 64 - (size : Int)) = ((p : Int) - 1) * 64 - (size : Int) := by rw [IntKind.wrap_i64]; omega
  clear h hb hs hg pok pno k1 k2 k3 hres hb0 hb0' hl0 hkr hwl hd hrl hk0
  go_enter Try.func28, Try.ntmps28
  go_upto_region 3 with fail
  refine reg_begin (fun W => (W.cell? ⟨gl, 0, none⟩ = some (.pointer (some ⟨xg, 0, none⟩)) ∧ W.cell? ⟨gl, 1, none⟩ = some (.int .i64 size)) ∧ W.cell? ⟨xg, 0, none⟩ = some (.slice (some ⟨xn, 0, none⟩) p xcn)) (fun _ => True) 16 16 #[false, false, false, false, false, false, false, false, false, false, false, false, false, false, false, false] (by kernel_rfl) (by kernel_rfl) (by kernel_rfl) ?_
  refine reg_take 0 16 15 #[true, false, false, false, false, false, false, false, false, false, false, false, false, false, false, false] (by rfl) (v := ?_) rfl rfl (by kernel_rfl) (by kernel_rfl) (by kernel_rfl) (by kernel_rfl) (fun _ _ _ h => h) (by rfl) ?_ (Till.mk' S0 trivial) ?_
  rotate_left
  · rintro W ⟨⟨hS1, hS2⟩, hS3⟩; go_simp; all_goals with_reducible rfl
  try simp only [List.setIfInBounds_toArray, List.set_cons_succ, List.set_cons_zero]
  refine reg_take 1 17 14 #[true, true, false, false, false, false, false, false, false, false, false, false, false, false, false, false] (by rfl) (v := ?_) rfl rfl (by kernel_rfl) (by kernel_rfl) (by kernel_rfl) (by kernel_rfl) (fun _ _ _ h => h) (by rfl) ?_ (Till.mk' S0 trivial) ?_
  rotate_left
  · rintro W ⟨⟨hS1, hS2⟩, hS3⟩; go_simp; all_goals with_reducible rfl
  try simp only [List.setIfInBounds_toArray, List.set_cons_succ, List.set_cons_zero]
  refine reg_take 2 18 13 #[true, true, true, false, false, false, false, false, false, false, false, false, false, false, false, false] (by rfl) (v := ?_) rfl rfl (by kernel_rfl) (by kernel_rfl) (by kernel_rfl) (by kernel_rfl) (fun _ _ _ h => h) (by rfl) ?_ (Till.mk' S0 trivial) ?_
  rotate_left
  · rintro W ⟨⟨hS1, hS2⟩, hS3⟩; go_simp; all_goals with_reducible rfl
  try simp only [List.setIfInBounds_toArray, List.set_cons_succ, List.set_cons_zero]
  refine reg_take 3 19 12 #[true, true, true, true, false, false, false, false, false, false, false, false, false, false, false, false] (by rfl) (v := ?_) rfl rfl (by kernel_rfl) (by kernel_rfl) (by kernel_rfl) (by kernel_rfl) (fun _ _ _ h => h) (by rfl) ?_ (Till.mk' S0 trivial) ?_
  rotate_left
  · rintro W ⟨⟨hS1, hS2⟩, hS3⟩; go_simp; all_goals with_reducible rfl
  try simp only [List.setIfInBounds_toArray, List.set_cons_succ, List.set_cons_zero]
  refine reg_take 4 20 11 #[true, true, true, true, true, false, false, false, false, false, false, false, false, false, false, false] (by rfl) (v := ?_) rfl rfl (by kernel_rfl) (by kernel_rfl) (by kernel_rfl) (by kernel_rfl) (fun _ _ _ h => h) (by rfl) ?_ (Till.mk' S0 trivial) ?_
  rotate_left
  · rintro W ⟨⟨hS1, hS2⟩, hS3⟩; go_simp; all_goals with_reducible rfl
  try simp only [List.setIfInBounds_toArray, List.set_cons_succ, List.set_cons_zero]
  refine reg_take 5 21 10 #[true, true, true, true, true, true, false, false, false, false, false, false, false, false, false, false] (by rfl) (v := ?_) rfl rfl (by kernel_rfl) (by kernel_rfl) (by kernel_rfl) (by kernel_rfl) (fun _ _ _ h => h) (by rfl) ?_ (Till.mk' S0 trivial) ?_
  rotate_left
  · rintro W ⟨⟨hS1, hS2⟩, hS3⟩; go_simp; all_goals with_reducible rfl
  try simp only [List.setIfInBounds_toArray, List.set_cons_succ, List.set_cons_zero]
  refine reg_take 6 22 9 #[true, true, true, true, true, true, true, false, false, false, false, false, false, false, false, false] (by rfl) (v := ?_) rfl rfl (by kernel_rfl) (by kernel_rfl) (by kernel_rfl) (by kernel_rfl) (fun _ _ _ h => h) (by rfl) ?_ (Till.mk' S0 trivial) ?_
  rotate_left
  · rintro W ⟨⟨hS1, hS2⟩, hS3⟩; go_simp; all_goals with_reducible rfl
  try simp only [List.setIfInBounds_toArray, List.set_cons_succ, List.set_cons_zero]
  refine reg_take 7 23 8 #[true, true, true, true, true, true, true, true, false, false, false, false, false, false, false, false] (by rfl) (v := ?_) rfl rfl (by kernel_rfl) (by kernel_rfl) (by kernel_rfl) (by kernel_rfl) (fun _ _ _ h => h) (by rfl) ?_ (Till.mk' S0 trivial) ?_
  rotate_left
  · rintro W ⟨⟨hS1, hS2⟩, hS3⟩; go_simp; all_goals with_reducible rfl
  try simp only [List.setIfInBounds_toArray, List.set_cons_succ, List.set_cons_zero]
  refine reg_take 8 24 7 #[true, true, true, true, true, true, true, true, true, false, false, false, false, false, false, false] (by rfl) (v := ?_) rfl rfl (by kernel_rfl) (by kernel_rfl) (by kernel_rfl) (by kernel_rfl) (fun _ _ _ h => h) (by rfl) ?_ (Till.mk' S0 trivial) ?_
  rotate_left
  · rintro W ⟨⟨hS1, hS2⟩, hS3⟩; go_simp; all_goals with_reducible rfl
  try simp only [List.setIfInBounds_toArray, List.set_cons_succ, List.set_cons_zero]
  refine reg_take 9 25 6 #[true, true, true, true, true, true, true, true, true, true, false, false, false, false, false, false] (by rfl) (v := ?_) rfl rfl (by kernel_rfl) (by kernel_rfl) (by kernel_rfl) (by kernel_rfl) (fun _ _ _ h => h) (by rfl) ?_ (Till.mk' S0 trivial) ?_
  rotate_left
  · rintro W ⟨⟨hS1, hS2⟩, hS3⟩; go_simp; all_goals with_reducible rfl
  try simp only [List.setIfInBounds_toArray, List.set_cons_succ, List.set_cons_zero]
  refine reg_take 10 26 5 #[true, true, true, true, true, true, true, true, true, true, true, false, false, false, false, false] (by rfl) (v := ?_) rfl rfl (by kernel_rfl) (by kernel_rfl) (by kernel_rfl) (by kernel_rfl) (fun _ _ _ h => h) (by rfl) ?_ (Till.mk' S0 trivial) ?_
  rotate_left
  · rintro W ⟨⟨hS1, hS2⟩, hS3⟩; go_simp; all_goals with_reducible rfl
  try simp only [List.setIfInBounds_toArray, List.set_cons_succ, List.set_cons_zero]
  refine reg_take 11 27 4 #[true, true, true, true, true, true, true, true, true, true, true, true, false, false, false, false] (by rfl) (v := ?_) rfl rfl (by kernel_rfl) (by kernel_rfl) (by kernel_rfl) (by kernel_rfl) (fun _ _ _ h => h) (by rfl) ?_ (Till.mk' S0 trivial) ?_
  rotate_left
  · rintro W ⟨⟨hS1, hS2⟩, hS3⟩; go_simp; all_goals with_reducible rfl
  try simp only [List.setIfInBounds_toArray, List.set_cons_succ, List.set_cons_zero]
  refine reg_take 12 28 3 #[true, true, true, true, true, true, true, true, true, true, true, true, true, false, false, false] (by rfl) (v := ?_) rfl rfl (by kernel_rfl) (by kernel_rfl) (by kernel_rfl) (by kernel_rfl) (fun _ _ _ h => h) (by rfl) ?_ (Till.mk' S0 trivial) ?_
  rotate_left
  · rintro W ⟨⟨hS1, hS2⟩, hS3⟩; go_simp; all_goals with_reducible rfl
  try simp only [List.setIfInBounds_toArray, List.set_cons_succ, List.set_cons_zero]
  refine reg_take 13 29 2 #[true, true, true, true, true, true, true, true, true, true, true, true, true, true, false, false] (by rfl) (v := ?_) rfl rfl (by kernel_rfl) (by kernel_rfl) (by kernel_rfl) (by kernel_rfl) (fun _ _ _ h => h) (by rfl) ?_ (Till.mk' S0 trivial) ?_
  rotate_left
  · rintro W ⟨⟨hS1, hS2⟩, hS3⟩; go_simp; all_goals with_reducible rfl
  try simp only [List.setIfInBounds_toArray, List.set_cons_succ, List.set_cons_zero]
  refine reg_take 14 30 1 #[true, true, true, true, true, true, true, true, true, true, true, true, true, true, true, false] (by rfl) (v := ?_) rfl rfl (by kernel_rfl) (by kernel_rfl) (by kernel_rfl) (by kernel_rfl) (fun _ _ _ h => h) (by rfl) ?_ (Till.mk' S0 trivial) ?_
  rotate_left
  · rintro W ⟨⟨hS1, hS2⟩, hS3⟩; go_simp; all_goals with_reducible rfl
  try simp only [List.setIfInBounds_toArray, List.set_cons_succ, List.set_cons_zero]
  refine reg_take 15 5 0 #[true, true, true, true, true, true, true, true, true, true, true, true, true, true, true, true] (by rfl) (v := ?_) rfl rfl (by kernel_rfl) (by kernel_rfl) (by kernel_rfl) (by kernel_rfl) (fun _ _ _ h => h) (by rfl) ?_ (Till.mk' S0 trivial) ?_
  rotate_left
  · rintro W ⟨⟨hS1, hS2⟩, hS3⟩; go_simp; all_goals with_reducible rfl
  try simp only [List.setIfInBounds_toArray, List.set_cons_succ, List.set_cons_zero]
  refine reg_done (by kernel_rfl) ?_ _
  clear hw1 hw2 hw3 S0
  obtain ⟨Wd, hWd⟩ : ∃ Wd, Wd = w.drew := ⟨_, rfl⟩
  rw [← hWd]
  have hsizeW : w.heap.size = Wd.heap.size := by rw [hWd]; rfl
  have tWd : Turns [] w Wd := by rw [hWd]; exact (Turns.refl _ _).drew
  have c0 := cellW tWd c0
  have c1 := cellW tWd c1
  have x4 := cellW tWd x4
  have HWd := Lib.hid tWd
  clear hWd tWd
  go_upto_region 9 with fail
  rw [HK.out]
  have hownE : (Wd.alloc (.cells #[] 5)).ownsRow Wd.heap.size 5 1 (.slice (some ⟨Wd.heap.size, 0, none⟩) 0 0) 0 [] := World.ownsRow_made Wd #[] 0 (Nat.le_refl _) (Nat.zero_le _) (by simp)
  obtain ⟨Wa, hWa⟩ : ∃ Wa, Wa = Wd.alloc (.cells #[] 5) := ⟨_, rfl⟩
  rw [← hWa] at hownE
  have tWa : Turns [] Wd Wa := by rw [hWa]; exact (Turns.refl _ _).alloc _
  have mn0 : Mine Wd Wa (.slice (some ⟨Wd.heap.size, 0, none⟩) ([] : List UInt8).length 0) [] := ⟨hownE, tWa⟩
  have c0a := cellW tWa c0
  have c1a := cellW tWa c1
  have HWa := Lib.hid hWa
  have HM0 := Lib.hid mn0
  have HC := Lib.hid (And.intro c0 (And.intro c1 (cellW HWd.out c2)))
  clear hWa hownE tWa mn0 c0 c1 x4 x0 c2
  go_upto_region 10 with fail
  rw [← HWa.out]
  by_cases hr : size % 64 = 0
  · have hr' : (size : Int) % 64 = 0 := by omega
    have hbe : b0 = ([] : List UInt8) ++ le8 (bs.length : Nat) ++ bs := by rw [HB.out, hr]; rfl
    have HBE := Lib.hid hbe
    go_upto_region 13 with fail
    clear hr' hr hbe c1a
    have mn := HM0.out
    have hpre : ([] : List UInt8).length ≤ 64 := by simp
    have RI := Lib.hid (RInt (bs.length : Int) mn (by omega))
    go_wp2_with fail
    refine RI.out.mono ?_
    rintro e Wx ⟨v4, rfl, m4⟩
    obtain ⟨pl, hpl9⟩ : ∃ pl, pl = ([] : List UInt8) ++ le8 (bs.length : Nat) := ⟨_, rfl⟩
    rw [← hpl9] at m4
    have hbe9 : b0 = pl ++ bs := by rw [hpl9]; exact HBE.out
    obtain ⟨A4, cc4, rfl⟩ := own_formV m4.own
    have t4 := HWd.out.trans m4.turns (by simp)
    have hsb := (t4.slice H0.out.2.2.1 (Nat.le_refl _) (by simp)).more t4.size
    have hl4 : pl.length ≤ 72 := by rw [hpl9, List.length_append, le8_length]; omega
    obtain ⟨v5, Wy, hr5, ap⟩ := run_append_rd (P := Try.prog) _ T8 34 m4.own hsb (bvs_one _) (by simp only [maxLen]; omega) (by omega) m4.turns.size
    rw [← bvs_append, ← hbe9] at ap
    have m5 := mine_apd m4 ap
    obtain ⟨y, cy, hv5, hcy1, hcy2, hy3, hy4, _⟩ := own_cells m5.own (by have := HL.out.1; omega)
    rw [hv5] at m5 hr5
    have tY : Turns [] w Wy := HWd.out.trans m5.turns (by simp)
    have twy := H0.out.1.more tY (by omega) hy4
    have smy : Same (gl :: X) w Wy := H0.out.1.same tY
    have hsl := m5.sl
    have hyg : y ≠ gl := by intro e; subst e; have := H0.out.2.1.lt; omega
    unfold maxLen at hcy2
    have HY := Lib.hid (And.intro twy (And.intro smy hsl))
    have hb0l : b0.length ≤ 70000 := by have := HL.out.1; omega
    clear ap hsb t4 m4 m5 hv5 hy3 hy4 tY twy smy hsl RI mn hl4 hpre hpl9 hbe9
    go_wp2_with (at_builtin; refine wpList_append_at rfl (.tmp 77) (.tmp 78) rfl hr5 rfl rfl ?_)
    go_loopw [6, 10] (fun pv i wr => RapR w0 g xg p (y :: gl :: X) st Wy res b0 k0 pv i wr) (fun _ i _ => b0.length + 100 - (intOf i).toNat)
    case atStart => exact ⟨0, 0, k0, sx, rfl, rfl, rfl, rfl, by omega, HY.out.1, (fun z hz => rfl), HD.out, by have := HL.out.2.2; omega, by rw [List.drop_zero]; exact HR.out⟩
    case round =>
      obtain ⟨m, iv, pk, s1, rfl, rfl, hpk, hiv, hivl, tw, sm, hds, hwl, hres⟩ := hrel
      obtain ⟨Z, hZ⟩ : ∃ Z, Z = wr := ⟨_, rfl⟩
      subst hZ
      have smz := HY.out.2.1.trans (sm.sub (fun z hz => List.mem_cons_of_mem _ hz))
      have bZ := smz.blk (x := gl) (by simp) H0.out.2.1
      have c0 := bZ.cell 0
      have c1 := bZ.cell 1
      have c2 := bZ.cell 2
      simp only [XLG, List.getElem?_cons_zero, List.getElem?_cons_succ] at c0 c1 c2
      by_cases hlt : iv < b0.length
      · have hltI : (iv : Int) < b0.length := by omega
        obtain ⟨hi, hhi⟩ : ∃ hi, hi = min (iv + 64) b0.length := ⟨_, rfl⟩
        have hh1 : iv ≤ hi := by omega
        have hh2 : hi ≤ b0.length := by omega
        have hh3 : hi - iv ≤ 64 := by omega
        have MM := Lib.hid (show (if (b0.length : Int) < (iv : Int) + 64 then (b0.length : Int) else (iv : Int) + 64) = hi by split <;> omega)
        have rg := run_rng (some ⟨y, 0, none⟩) b0.length cy iv hi hh1 hh2 hcy1
        have hdl : (b0.drop iv).length = b0.length - iv := List.length_drop
        have hst := wchunks_step s1 pk (b0.drop iv) (by omega)
        rw [List.drop_drop, ← hres] at hst
        obtain ⟨pg, hpg⟩ : ∃ pg, pg = (b0.drop iv).take 64 := ⟨_, rfl⟩
        have hpgl : pg.length = hi - iv := by rw [hpg, List.length_take, hdl]; omega
        rw [← hpg] at hst
        have hslz := sl_same HY.out.2.2 sm (by simp)
        have hsp : Sl Z Z.heap.size 1 (.slice (adr (some ⟨y, 0, none⟩) cy iv) pg.length (cy - iv)) pg.length (bvs pg) := by
          have h1 := (sl_off hslz (Nat.le_of_lt hlt)).to (show hi - iv ≤ b0.length - iv by omega)
          rw [bvs_drop, bvs_take] at h1
          have e : (b0.drop iv).take (hi - iv) = pg := by
            rw [hpg]
            by_cases h : hi - iv = 64
            · rw [h]
            · rw [List.take_of_length_le (by omega), List.take_of_length_le (by omega)]
          rw [e] at h1
          rw [hpgl]; exact h1
        obtain ⟨cd, hcd⟩ : ∃ cd, cd = s1.code := ⟨_, rfl⟩
        have hpkp : pk < p := by have := HL.out.2.1; omega
        have WR := TRWrite (tw.turn (Turns.refl [] Z).drew (by simp)) pk _ (cy - iv) pg hsp.drew hpkp (by omega) hds (by omega)
        rw [hpgl, ← hcd] at WR
        replace WR := Lib.hid WR
        have HT := Lib.hid (And.intro hst hcd)
        have HM := Lib.hid (And.intro hds (And.intro hpk (And.intro hiv (And.intro hwl (And.intro sm hivl)))))
        have hivb : (iv : Int) ≤ 70063 := by omega
        have hwi : IntKind.i64.wrap ((iv : Int) + 64) = (iv : Int) + 64 := by rw [IntKind.wrap_i64]; omega
        have hhiI : (hi : Int) ≤ 70000 := by omega
        have hpkb : pk ≤ 4096 := by omega
        clear hhi hdl hst hpg hpgl hslz hsp hcd hres tw sm smz bZ c1 c2 hds hpk hiv hwl
        go_upto_region 17 with fail
        refine reg_begin (fun W => W.cell? ⟨gl, 0, none⟩ = some (.pointer (some ⟨xg, 0, none⟩))) (fun _ => True) 15 15 #[false, false, false, false, false, false, false, false, false, false, false, false, false, false, false] (by kernel_rfl) (by kernel_rfl) (by kernel_rfl) ?_
        refine reg_take 0 86 14 #[true, false, false, false, false, false, false, false, false, false, false, false, false, false, false] (by rfl) (v := ?_) rfl rfl (by kernel_rfl) (by kernel_rfl) (by kernel_rfl) (by kernel_rfl) (fun _ _ _ h => h) (by rfl) ?_ (Till.mk' c0 trivial) ?_
        rotate_left
        · intro W hS; go_simp; all_goals with_reducible rfl
        try simp only [List.setIfInBounds_toArray, List.set_cons_succ, List.set_cons_zero]
        refine reg_take 1 87 13 #[true, true, false, false, false, false, false, false, false, false, false, false, false, false, false] (by rfl) (v := ?_) rfl rfl (by kernel_rfl) (by kernel_rfl) (by kernel_rfl) (by kernel_rfl) (fun _ _ _ h => h) (by rfl) ?_ (Till.mk' c0 trivial) ?_
        rotate_left
        · intro W hS; go_simp; all_goals with_reducible rfl
        try simp only [List.setIfInBounds_toArray, List.set_cons_succ, List.set_cons_zero]
        refine reg_take 2 88 12 #[true, true, true, false, false, false, false, false, false, false, false, false, false, false, false] (by rfl) (v := ?_) rfl rfl (by kernel_rfl) (by kernel_rfl) (by kernel_rfl) (by kernel_rfl) (fun _ _ _ h => h) (by rfl) ?_ (Till.mk' c0 trivial) ?_
        rotate_left
        · intro W hS; go_simp; all_goals with_reducible rfl
        try simp only [List.setIfInBounds_toArray, List.set_cons_succ, List.set_cons_zero]
        refine reg_take 3 89 11 #[true, true, true, true, false, false, false, false, false, false, false, false, false, false, false] (by rfl) (v := ?_) rfl rfl (by kernel_rfl) (by kernel_rfl) (by kernel_rfl) (by kernel_rfl) (fun _ _ _ h => h) (by rfl) ?_ (Till.mk' c0 trivial) ?_
        rotate_left
        · intro W hS; have c9 : W.cell? ⟨gl, 0, none⟩ = some (.pointer (some ⟨xg, 0, none⟩)) := hS; go_simp; all_goals with_reducible rfl
        try simp only [List.setIfInBounds_toArray, List.set_cons_succ, List.set_cons_zero]
        refine reg_take 4 90 10 #[true, true, true, true, true, false, false, false, false, false, false, false, false, false, false] (by rfl) (v := ?_) rfl rfl (by kernel_rfl) (by kernel_rfl) (by kernel_rfl) (by kernel_rfl) (fun _ _ _ h => h) (by rfl) ?_ (Till.mk' c0 trivial) ?_
        rotate_left
        · intro W hS; go_simp; all_goals with_reducible rfl
        try simp only [List.setIfInBounds_toArray, List.set_cons_succ, List.set_cons_zero]
        refine reg_take 5 91 9 #[true, true, true, true, true, true, false, false, false, false, false, false, false, false, false] (by rfl) (v := ?_) rfl rfl (by kernel_rfl) (by kernel_rfl) (by kernel_rfl) (by kernel_rfl) (fun _ _ _ h => h) (by rfl) ?_ (Till.mk' c0 trivial) ?_
        rotate_left
        · intro W hS; go_simp; all_goals with_reducible rfl
        try simp only [List.setIfInBounds_toArray, List.set_cons_succ, List.set_cons_zero]
        refine reg_take 6 92 8 #[true, true, true, true, true, true, true, false, false, false, false, false, false, false, false] (by rfl) (v := ?_) rfl rfl (by kernel_rfl) (by kernel_rfl) (by kernel_rfl) (by kernel_rfl) (fun _ _ _ h => h) (by rfl) ?_ (Till.mk' c0 trivial) ?_
        rotate_left
        · intro W hS; go_simp; all_goals with_reducible rfl
        try simp only [List.setIfInBounds_toArray, List.set_cons_succ, List.set_cons_zero]
        refine reg_take 7 93 7 #[true, true, true, true, true, true, true, true, false, false, false, false, false, false, false] (by rfl) (v := ?_) rfl rfl (by kernel_rfl) (by kernel_rfl) (by kernel_rfl) (by kernel_rfl) (fun _ _ _ h => h) (by rfl) ?_ (Till.mk' c0 trivial) ?_
        rotate_left
        · intro W hS; go_simp; all_goals with_reducible rfl
        try simp only [List.setIfInBounds_toArray, List.set_cons_succ, List.set_cons_zero]
        refine reg_take 8 94 6 #[true, true, true, true, true, true, true, true, true, false, false, false, false, false, false] (by rfl) (v := ?_) rfl rfl (by kernel_rfl) (by kernel_rfl) (by kernel_rfl) (by kernel_rfl) (fun _ _ _ h => h) (by rfl) ?_ (Till.mk' c0 trivial) ?_
        rotate_left
        · intro W hS; go_simp; all_goals with_reducible rfl
        try simp only [List.setIfInBounds_toArray, List.set_cons_succ, List.set_cons_zero]
        refine reg_take 9 95 5 #[true, true, true, true, true, true, true, true, true, true, false, false, false, false, false] (by rfl) (v := ?_) rfl rfl (by kernel_rfl) (by kernel_rfl) (by kernel_rfl) (by kernel_rfl) (fun _ _ _ h => h) (by rfl) ?_ (Till.mk' c0 trivial) ?_
        rotate_left
        · intro W hS; go_simp; all_goals with_reducible rfl
        try simp only [List.setIfInBounds_toArray, List.set_cons_succ, List.set_cons_zero]
        refine reg_take 10 96 4 #[true, true, true, true, true, true, true, true, true, true, true, false, false, false, false] (by rfl) (v := ?_) rfl rfl (by kernel_rfl) (by kernel_rfl) (by kernel_rfl) (by kernel_rfl) (fun _ _ _ h => h) (by rfl) ?_ (Till.mk' c0 trivial) ?_
        rotate_left
        · intro W hS; go_simp; all_goals with_reducible rfl
        try simp only [List.setIfInBounds_toArray, List.set_cons_succ, List.set_cons_zero]
        refine reg_take 11 97 3 #[true, true, true, true, true, true, true, true, true, true, true, true, false, false, false] (by rfl) (v := ?_) rfl rfl (by kernel_rfl) (by kernel_rfl) (by kernel_rfl) (by kernel_rfl) (fun _ _ _ h => h) (by rfl) ?_ (Till.mk' c0 trivial) ?_
        rotate_left
        · intro W hS; have hm9 := MM.out; go_simp; all_goals with_reducible rfl
        try simp only [List.setIfInBounds_toArray, List.set_cons_succ, List.set_cons_zero]
        refine reg_take 12 98 2 #[true, true, true, true, true, true, true, true, true, true, true, true, true, false, false] (by rfl) (v := ?_) rfl rfl (by kernel_rfl) (by kernel_rfl) (by kernel_rfl) (by kernel_rfl) (fun _ _ _ h => h) (by rfl) ?_ (Till.mk' c0 trivial) ?_
        rotate_left
        · intro W hS; have c9 := rg W; go_simp; all_goals with_reducible rfl
        try simp only [List.setIfInBounds_toArray, List.set_cons_succ, List.set_cons_zero]
        refine reg_one 13 1 #[true, true, true, true, true, true, true, true, true, true, true, true, true, true, false] (by kernel_rfl) rfl (by rfl) (by kernel_rfl) (fun K hK => ?_)
        go_simp
        refine WR.out.mono ?_
        rintro e y1 ⟨rfl, a1, sm1⟩
        refine hK _ _ (Till.mk' ((sm1.cell (x := gl) (by simp)).trans c0) trivial) ?_
        clear hK K
        try simp only [List.setIfInBounds_toArray, List.set_cons_succ, List.set_cons_zero]
        refine reg_take 14 11 0 #[true, true, true, true, true, true, true, true, true, true, true, true, true, true, true] (by rfl) (v := ?_) rfl rfl (by kernel_rfl) (by kernel_rfl) (by kernel_rfl) (by kernel_rfl) (fun _ _ _ h => h) (by rfl) ?_ (Till.mk' ((sm1.cell (x := gl) (by simp)).trans c0) trivial) ?_
        rotate_left
        · intro W hS; go_simp; all_goals with_reducible rfl
        try simp only [List.setIfInBounds_toArray, List.set_cons_succ, List.set_cons_zero]
        refine reg_done (by kernel_rfl) ?_ _
        have hc2 : cd = 0 ∨ cd = 15 := by rw [HT.out.2]; exact code_two s1
        rcases hc2 with hc | hc
        · subst hc
          have hal := wrote_alive s1 pk (pageOf pg) HM.out.1 HT.out.2.symm
          have hst := HT.out.1
          rw [if_pos HT.out.2.symm] at hst
          have hwl2 := wrote_wl s1 pk (pageOf pg)
          have HF := Lib.hid (And.intro a1 (And.intro (HM.out.2.2.2.2.1.trans sm1) (And.intro hal (And.intro hst hwl2))))
          clear a1 sm1 hal hst hwl2 WR
          go_wp2_with fail
          go_roundw
          case rel => exact ⟨m + 1, iv + 64, pk + 1, s1.wrote pk (pageOf pg), by go_num, by go_num, by have := HM.out.2.1; omega, by have := HM.out.2.2.1; omega, by omega, HF.out.1, HF.out.2.1, HF.out.2.2.1, by have := HF.out.2.2.2.2; have := HM.out.2.2.2.1; omega, HF.out.2.2.2.1⟩
          case measure => (simp [intOf] <;> omega)
        · subst hc
          have hpg := HP.out.2.1 (s1.wrote pk (pageOf pg)) 15 (by decide) (by rw [HT.out.1, if_neg (by rw [← HT.out.2]; decide), ← HT.out.2])
          have hap := HP.out.2.2.1 _ 15 size ct bs hpg (by decide)
          have smw := HY.out.2.1.trans ((HM.out.2.2.2.2.1.trans sm1).sub (fun z hz => List.mem_cons_of_mem _ hz))
          have HF := Lib.hid (And.intro hap (And.intro (a1.sub (Y := gl :: X) (fun z hz => List.mem_cons_of_mem _ hz)) (And.intro (smw.sub (fun z hz => List.mem_cons_of_mem _ hz)) (smw.blk (x := gl) (by simp) H0.out.2.1))))
          clear hpg hap smw a1 sm1 WR
          go_wp2_with fail
          go_ret
          refine ⟨by rw [HF.out.1]; rfl, by rw [HF.out.1]; exact HF.out.2.1, HF.out.2.2.1, ?_⟩
          rw [HF.out.1, if_neg (show ¬ ((15 : Int) = 0) by decide)]
          exact HF.out.2.2.2
      · have hltI : ¬ (iv : Int) < b0.length := by omega
        have hdr : b0.drop iv = [] := List.drop_of_length_le (by omega)
        rw [hdr, wchunks_nil] at hres
        have hpg := HP.out.1 s1 hres
        have SY := TRSync tw
        have hso := sync_out s1 hds
        obtain ⟨cs, hcs⟩ : ∃ cs, cs = s1.syncCode := ⟨_, rfl⟩
        rw [← hcs] at SY hpg hso
        obtain ⟨s2, hs2⟩ : ∃ s2, s2 = s1.sync := ⟨_, rfl⟩
        rw [← hs2] at SY hpg hso
        have h2 : cs = 0 ∨ cs = 15 := by rw [hcs]; exact syncCode_two s1
        have HPG := Lib.hid hpg
        have HSO := Lib.hid hso
        have HSM := Lib.hid smz
        replace SY := Lib.hid SY
        clear hdr hres hpg hso hcs hs2 tw sm smz bZ hds hpk hiv hwl c1 c2
        go_wp2_with fail
        refine SY.out.mono ?_
        rintro e Zs ⟨rfl, tw2, sm2⟩
        have smz := HSM.out.trans (sm2.sub (fun z hz => List.mem_cons_of_mem _ hz))
        have tw3 := tw2.sub (Y := gl :: X) (fun z hz => List.mem_cons_of_mem _ hz)
        have bZ := smz.blk (x := gl) (by simp) H0.out.2.1
        rcases h2 with rfl | rfl
        · rcases HSO.out with ⟨q, _⟩ | ⟨_, q1, q2, q3, q4, q5⟩
          · cases q
          have c0 := bZ.cell 0
          have c1 := bZ.cell 1
          have c2 := bZ.cell 2
          simp only [XLG, List.getElem?_cons_zero, List.getElem?_cons_succ] at c0 c1 c2
          obtain ⟨Zd, hZd⟩ : ∃ Zd, Zd = Zs.drew := ⟨_, rfl⟩
          have tZd : Turns [] Zs Zd := by rw [hZd]; exact (Turns.refl _ _).drew
          have S23 : (Zd.cell? ⟨gl, 0, none⟩ = some (.pointer (some ⟨xg, 0, none⟩)) ∧ Zd.cell? ⟨gl, 1, none⟩ = some (.int .i64 size)) ∧ Zd.cell? ⟨gl, 2, none⟩ = some (.int .i64 ct) := ⟨⟨cellW tZd c0, cellW tZd c1⟩, cellW tZd c2⟩
          have HZ := Lib.hid (And.intro (tw3.turn tZd (by simp)) (And.intro (smz.trans (tw3.same tZd)) (And.intro q4 q2)))
          have HZd := Lib.hid hZd
          have hws : IntKind.i64.wrap ((size : Int) + 8) = (size : Int) + 8 := by rw [IntKind.wrap_i64]; omega
          have hws2 : IntKind.i64.wrap ((size : Int) + 8 + (bs.length : Int)) = (size : Int) + 8 + (bs.length : Int) := by rw [IntKind.wrap_i64]; omega
          have hwct : IntKind.i64.wrap ((ct : Int) + 1) = (ct : Int) + 1 := by rw [IntKind.wrap_i64]; omega
          clear hZd tZd tw2 sm2 smz tw3 bZ c0 c1 c2 q1 q2 q3 q4 q5 SY
          go_upto_region 23 with fail
          refine reg_begin (fun W => (W.cell? ⟨gl, 0, none⟩ = some (.pointer (some ⟨xg, 0, none⟩)) ∧ W.cell? ⟨gl, 1, none⟩ = some (.int .i64 size)) ∧ W.cell? ⟨gl, 2, none⟩ = some (.int .i64 ct)) (fun _ => True) 21 21 #[false, false, false, false, false, false, false, false, false, false, false, false, false, false, false, false, false, false, false, false, false] (by kernel_rfl) (by kernel_rfl) (by kernel_rfl) ?_
          rw [← HZd.out]
          refine reg_take 0 112 20 #[true, false, false, false, false, false, false, false, false, false, false, false, false, false, false, false, false, false, false, false, false] (by rfl) (v := ?_) rfl rfl (by kernel_rfl) (by kernel_rfl) (by kernel_rfl) (by kernel_rfl) (fun _ _ _ h => h) (by rfl) ?_ (Till.mk' S23 trivial) ?_
          rotate_left
          · rintro W ⟨⟨hS1, hS2⟩, hS3⟩; go_simp; all_goals with_reducible rfl
          try simp only [List.setIfInBounds_toArray, List.set_cons_succ, List.set_cons_zero]
          refine reg_take 1 113 19 #[true, true, false, false, false, false, false, false, false, false, false, false, false, false, false, false, false, false, false, false, false] (by rfl) (v := ?_) rfl rfl (by kernel_rfl) (by kernel_rfl) (by kernel_rfl) (by kernel_rfl) (fun _ _ _ h => h) (by rfl) ?_ (Till.mk' S23 trivial) ?_
          rotate_left
          · rintro W ⟨⟨hS1, hS2⟩, hS3⟩; go_simp; all_goals with_reducible rfl
          try simp only [List.setIfInBounds_toArray, List.set_cons_succ, List.set_cons_zero]
          refine reg_take 2 114 18 #[true, true, true, false, false, false, false, false, false, false, false, false, false, false, false, false, false, false, false, false, false] (by rfl) (v := ?_) rfl rfl (by kernel_rfl) (by kernel_rfl) (by kernel_rfl) (by kernel_rfl) (fun _ _ _ h => h) (by rfl) ?_ (Till.mk' S23 trivial) ?_
          rotate_left
          · rintro W ⟨⟨hS1, hS2⟩, hS3⟩; go_simp; all_goals with_reducible rfl
          try simp only [List.setIfInBounds_toArray, List.set_cons_succ, List.set_cons_zero]
          refine reg_take 3 115 17 #[true, true, true, true, false, false, false, false, false, false, false, false, false, false, false, false, false, false, false, false, false] (by rfl) (v := ?_) rfl rfl (by kernel_rfl) (by kernel_rfl) (by kernel_rfl) (by kernel_rfl) (fun _ _ _ h => h) (by rfl) ?_ (Till.mk' S23 trivial) ?_
          rotate_left
          · rintro W ⟨⟨hS1, hS2⟩, hS3⟩; go_simp; all_goals with_reducible rfl
          try simp only [List.setIfInBounds_toArray, List.set_cons_succ, List.set_cons_zero]
          refine reg_take 4 116 16 #[true, true, true, true, true, false, false, false, false, false, false, false, false, false, false, false, false, false, false, false, false] (by rfl) (v := ?_) rfl rfl (by kernel_rfl) (by kernel_rfl) (by kernel_rfl) (by kernel_rfl) (fun _ _ _ h => h) (by rfl) ?_ (Till.mk' S23 trivial) ?_
          rotate_left
          · rintro W ⟨⟨hS1, hS2⟩, hS3⟩; go_simp; all_goals with_reducible rfl
          try simp only [List.setIfInBounds_toArray, List.set_cons_succ, List.set_cons_zero]
          refine reg_take 5 117 15 #[true, true, true, true, true, true, false, false, false, false, false, false, false, false, false, false, false, false, false, false, false] (by rfl) (v := ?_) rfl rfl (by kernel_rfl) (by kernel_rfl) (by kernel_rfl) (by kernel_rfl) (fun _ _ _ h => h) (by rfl) ?_ (Till.mk' S23 trivial) ?_
          rotate_left
          · rintro W ⟨⟨hS1, hS2⟩, hS3⟩; go_simp; all_goals with_reducible rfl
          try simp only [List.setIfInBounds_toArray, List.set_cons_succ, List.set_cons_zero]
          refine reg_take 6 118 14 #[true, true, true, true, true, true, true, false, false, false, false, false, false, false, false, false, false, false, false, false, false] (by rfl) (v := ?_) rfl rfl (by kernel_rfl) (by kernel_rfl) (by kernel_rfl) (by kernel_rfl) (fun _ _ _ h => h) (by rfl) ?_ (Till.mk' S23 trivial) ?_
          rotate_left
          · rintro W ⟨⟨hS1, hS2⟩, hS3⟩; go_simp; all_goals with_reducible rfl
          try simp only [List.setIfInBounds_toArray, List.set_cons_succ, List.set_cons_zero]
          refine reg_take 7 119 13 #[true, true, true, true, true, true, true, true, false, false, false, false, false, false, false, false, false, false, false, false, false] (by rfl) (v := ?_) rfl rfl (by kernel_rfl) (by kernel_rfl) (by kernel_rfl) (by kernel_rfl) (fun _ _ _ h => h) (by rfl) ?_ (Till.mk' S23 trivial) ?_
          rotate_left
          · rintro W ⟨⟨hS1, hS2⟩, hS3⟩; go_simp; all_goals with_reducible rfl
          try simp only [List.setIfInBounds_toArray, List.set_cons_succ, List.set_cons_zero]
          refine reg_take 8 120 12 #[true, true, true, true, true, true, true, true, true, false, false, false, false, false, false, false, false, false, false, false, false] (by rfl) (v := ?_) rfl rfl (by kernel_rfl) (by kernel_rfl) (by kernel_rfl) (by kernel_rfl) (fun _ _ _ h => h) (by rfl) ?_ (Till.mk' S23 trivial) ?_
          rotate_left
          · rintro W ⟨⟨hS1, hS2⟩, hS3⟩; go_simp; all_goals with_reducible rfl
          try simp only [List.setIfInBounds_toArray, List.set_cons_succ, List.set_cons_zero]
          refine reg_take 9 121 11 #[true, true, true, true, true, true, true, true, true, true, false, false, false, false, false, false, false, false, false, false, false] (by rfl) (v := ?_) rfl rfl (by kernel_rfl) (by kernel_rfl) (by kernel_rfl) (by kernel_rfl) (fun _ _ _ h => h) (by rfl) ?_ (Till.mk' S23 trivial) ?_
          rotate_left
          · rintro W ⟨⟨hS1, hS2⟩, hS3⟩; go_simp; all_goals with_reducible rfl
          try simp only [List.setIfInBounds_toArray, List.set_cons_succ, List.set_cons_zero]
          refine reg_take 10 122 10 #[true, true, true, true, true, true, true, true, true, true, true, false, false, false, false, false, false, false, false, false, false] (by rfl) (v := ?_) rfl rfl (by kernel_rfl) (by kernel_rfl) (by kernel_rfl) (by kernel_rfl) (fun _ _ _ h => h) (by rfl) ?_ (Till.mk' S23 trivial) ?_
          rotate_left
          · rintro W ⟨⟨hS1, hS2⟩, hS3⟩; go_simp; all_goals with_reducible rfl
          try simp only [List.setIfInBounds_toArray, List.set_cons_succ, List.set_cons_zero]
          refine reg_take 11 123 9 #[true, true, true, true, true, true, true, true, true, true, true, true, false, false, false, false, false, false, false, false, false] (by rfl) (v := ?_) rfl rfl (by kernel_rfl) (by kernel_rfl) (by kernel_rfl) (by kernel_rfl) (fun _ _ _ h => h) (by rfl) ?_ (Till.mk' S23 trivial) ?_
          rotate_left
          · rintro W ⟨⟨hS1, hS2⟩, hS3⟩; go_simp; all_goals with_reducible rfl
          try simp only [List.setIfInBounds_toArray, List.set_cons_succ, List.set_cons_zero]
          refine reg_take 13 125 8 #[true, true, true, true, true, true, true, true, true, true, true, true, false, true, false, false, false, false, false, false, false] (by rfl) (v := ?_) rfl rfl (by kernel_rfl) (by kernel_rfl) (by kernel_rfl) (by kernel_rfl) (fun _ _ _ h => h) (by rfl) ?_ (Till.mk' S23 trivial) ?_
          rotate_left
          · rintro W ⟨⟨hS1, hS2⟩, hS3⟩; go_simp; all_goals with_reducible rfl
          try simp only [List.setIfInBounds_toArray, List.set_cons_succ, List.set_cons_zero]
          refine reg_take 14 126 7 #[true, true, true, true, true, true, true, true, true, true, true, true, false, true, true, false, false, false, false, false, false] (by rfl) (v := ?_) rfl rfl (by kernel_rfl) (by kernel_rfl) (by kernel_rfl) (by kernel_rfl) (fun _ _ _ h => h) (by rfl) ?_ (Till.mk' S23 trivial) ?_
          rotate_left
          · rintro W ⟨⟨hS1, hS2⟩, hS3⟩; go_simp; all_goals with_reducible rfl
          try simp only [List.setIfInBounds_toArray, List.set_cons_succ, List.set_cons_zero]
          refine reg_take 15 127 6 #[true, true, true, true, true, true, true, true, true, true, true, true, false, true, true, true, false, false, false, false, false] (by rfl) (v := ?_) rfl rfl (by kernel_rfl) (by kernel_rfl) (by kernel_rfl) (by kernel_rfl) (fun _ _ _ h => h) (by rfl) ?_ (Till.mk' S23 trivial) ?_
          rotate_left
          · rintro W ⟨⟨hS1, hS2⟩, hS3⟩; go_simp; all_goals with_reducible rfl
          try simp only [List.setIfInBounds_toArray, List.set_cons_succ, List.set_cons_zero]
          refine reg_take 16 128 5 #[true, true, true, true, true, true, true, true, true, true, true, true, false, true, true, true, true, false, false, false, false] (by rfl) (v := ?_) rfl rfl (by kernel_rfl) (by kernel_rfl) (by kernel_rfl) (by kernel_rfl) (fun _ _ _ h => h) (by rfl) ?_ (Till.mk' S23 trivial) ?_
          rotate_left
          · rintro W ⟨⟨hS1, hS2⟩, hS3⟩; go_simp; all_goals with_reducible rfl
          try simp only [List.setIfInBounds_toArray, List.set_cons_succ, List.set_cons_zero]
          refine reg_take 17 129 4 #[true, true, true, true, true, true, true, true, true, true, true, true, false, true, true, true, true, true, false, false, false] (by rfl) (v := ?_) rfl rfl (by kernel_rfl) (by kernel_rfl) (by kernel_rfl) (by kernel_rfl) (fun _ _ _ h => h) (by rfl) ?_ (Till.mk' S23 trivial) ?_
          rotate_left
          · rintro W ⟨⟨hS1, hS2⟩, hS3⟩; go_simp; all_goals with_reducible rfl
          try simp only [List.setIfInBounds_toArray, List.set_cons_succ, List.set_cons_zero]
          refine reg_one 12 3 #[true, true, true, true, true, true, true, true, true, true, true, true, true, true, true, true, true, true, false, false, false] (by kernel_rfl) rfl (by rfl) (by kernel_rfl) (fun K hK => ?_)
          go_simp
          refine (RInt ((size : Int) + 8 + (bs.length : Int)) (Mine.nil (Turns.refl [] Zd)) (by simp)).mono ?_
          rintro e q1 ⟨v7, rfl, m7⟩
          rw [List.nil_append] at m7
          have S7 : (q1.cell? ⟨gl, 0, none⟩ = some (.pointer (some ⟨xg, 0, none⟩)) ∧ q1.cell? ⟨gl, 1, none⟩ = some (.int .i64 size)) ∧ q1.cell? ⟨gl, 2, none⟩ = some (.int .i64 ct) := ⟨⟨cellW m7.turns S23.1.1, cellW m7.turns S23.1.2⟩, cellW m7.turns S23.2⟩
          refine hK _ _ (Till.mk' S7 trivial) ?_
          clear hK K
          try simp only [List.setIfInBounds_toArray, List.set_cons_succ, List.set_cons_zero]
          refine reg_one 18 2 #[true, true, true, true, true, true, true, true, true, true, true, true, true, true, true, true, true, true, true, false, false] (by kernel_rfl) rfl (by rfl) (by kernel_rfl) (fun K hK => ?_)
          go_simp
          refine (RInt ((ct : Int) + 1) m7 (by rw [le8_length]; omega)).mono ?_
          rintro e q2 ⟨v8, rfl, m8⟩
          have S8 : (q2.cell? ⟨gl, 0, none⟩ = some (.pointer (some ⟨xg, 0, none⟩)) ∧ q2.cell? ⟨gl, 1, none⟩ = some (.int .i64 size)) ∧ q2.cell? ⟨gl, 2, none⟩ = some (.int .i64 ct) := ⟨⟨cellW m8.turns S23.1.1, cellW m8.turns S23.1.2⟩, cellW m8.turns S23.2⟩
          rw [show (size : Int) + 8 + (bs.length : Int) = ((size + 8 + bs.length : Nat) : Int) by omega, show (ct : Int) + 1 = ((ct + 1 : Nat) : Int) by omega, show le8 ((size + 8 + bs.length : Nat) : Int) ++ le8 ((ct + 1 : Nat) : Int) = headB (size + 8 + bs.length) (ct + 1) from rfl] at m8
          obtain ⟨A8, cc8, rfl⟩ := own_formV m8.own
          have W8 := TRWrite (HZ.out.1.turn m8.turns (by simp)) 0 A8 cc8 (headB (size + 8 + bs.length) (ct + 1)) m8.sl (by omega) (by rw [headB_len]; omega) HZ.out.2.2.1 (by rw [HZ.out.2.2.2]; simp)
          have sm8 := HZ.out.2.1.trans (HZ.out.1.same m8.turns)
          refine hK _ _ (Till.mk' S8 trivial) ?_
          clear hK K
          try simp only [List.setIfInBounds_toArray, List.set_cons_succ, List.set_cons_zero]
          refine reg_one 19 1 #[true, true, true, true, true, true, true, true, true, true, true, true, true, true, true, true, true, true, true, true, false] (by kernel_rfl) rfl (by rfl) (by kernel_rfl) (fun K hK => ?_)
          go_simp
          refine W8.mono ?_
          rintro e q3 ⟨rfl, tw9, sm9⟩
          have S9 : (q3.cell? ⟨gl, 0, none⟩ = some (.pointer (some ⟨xg, 0, none⟩)) ∧ q3.cell? ⟨gl, 1, none⟩ = some (.int .i64 size)) ∧ q3.cell? ⟨gl, 2, none⟩ = some (.int .i64 ct) := ⟨⟨(sm9.cell (x := gl) (by simp)).trans S8.1.1, (sm9.cell (x := gl) (by simp)).trans S8.1.2⟩, (sm9.cell (x := gl) (by simp)).trans S8.2⟩
          refine hK _ _ (Till.mk' S9 trivial) ?_
          clear hK K
          try simp only [List.setIfInBounds_toArray, List.set_cons_succ, List.set_cons_zero]
          refine reg_take 20 12 0 #[true, true, true, true, true, true, true, true, true, true, true, true, true, true, true, true, true, true, true, true, true] (by rfl) (v := ?_) rfl rfl (by kernel_rfl) (by kernel_rfl) (by kernel_rfl) (by kernel_rfl) (fun _ _ _ h => h) (by rfl) ?_ (Till.mk' S9 trivial) ?_
          rotate_left
          · rintro W ⟨⟨hS1, hS2⟩, hS3⟩; go_simp; all_goals with_reducible rfl
          try simp only [List.setIfInBounds_toArray, List.set_cons_succ, List.set_cons_zero]
          refine reg_done (by kernel_rfl) ?_ _
          have sm10 := sm8.trans sm9
          have hal := wrote_alive s2 0 (pageOf (headB (size + 8 + bs.length) (ct + 1))) HZ.out.2.2.1
          have hk2 := HP.out.2.2.2.1 s2 size ct bs HPG.out
          have hk3 := HP.out.2.2.2.2 s2 size ct bs HPG.out
          obtain ⟨s3, hs3⟩ : ∃ s3, s3 = s2.wrote 0 (pageOf (headB (size + 8 + bs.length) (ct + 1))) := ⟨_, rfl⟩
          rw [← hs3] at hk2 hk3 hal tw9
          obtain ⟨cd, hcd⟩ : ∃ cd, cd = s2.code := ⟨_, rfl⟩
          have hc2 := code_two s2
          rw [← hcd] at hk2 hk3 hal hc2
          rw [← hcd]
          have bQ := sm10.blk (x := gl) (by simp) H0.out.2.1
          rcases hc2 with rfl | rfl
          · have SY2 := TRSync tw9
            have hk3 := hk3 rfl
            have h2 := syncCode_two s3
            obtain ⟨cs, hcs⟩ : ∃ cs, cs = s3.syncCode := ⟨_, rfl⟩
            rw [← hcs] at SY2 hk3 h2
            have c0 := bQ.cell 0
            simp only [XLG, List.getElem?_cons_zero] at c0
            have HK3 := Lib.hid hk3
            have HS10 := Lib.hid sm10
            replace SY2 := Lib.hid SY2
            clear hk2 hk3 hs3 hcd hcs tw9 sm9 sm8 sm10 bQ m7 m8 S7 S8 S9 W8 hal
            go_wp2_with fail
            refine SY2.out.mono ?_
            rintro e q4 ⟨rfl, tw5, sm5⟩
            have sm6 := HS10.out.trans sm5
            have b6 := sm6.blk (x := gl) (by simp) H0.out.2.1
            rcases h2 with rfl | rfl
            · have c1 := b6.cell 1
              have c2 := b6.cell 2
              have f1 := b6.free 1
              have f2 := b6.free 2
              simp only [XLG, List.getElem?_cons_zero, List.getElem?_cons_succ] at c1 c2
              have B1 := b6.set 1 (.int .i64 ((size : Int) + 8 + (bs.length : Int)))
              have B2 := B1.set 2 (.int .i64 ((ct : Int) + 1))
              simp only [XLG, List.set_cons_succ, List.set_cons_zero] at B2
              have T2 := ((Turns.refl [gl] q4).setCell (p := ⟨gl, 1, none⟩) (.inl (by simp)) (.int .i64 ((size : Int) + 8 + (bs.length : Int)))).setCell (p := ⟨gl, 2, none⟩) (.inl (by simp)) (.int .i64 ((ct : Int) + 1))
              have hgX : Same X q4 ((q4.setCell ⟨gl, 1, none⟩ (.int .i64 ((size : Int) + 8 + (bs.length : Int)))).setCell ⟨gl, 2, none⟩ (.int .i64 ((ct : Int) + 1))) := fun z hz => T2.block z (by obtain ⟨D, xd, B, Bx, _, _, h⟩ := tw5; exact (h.kept z (List.mem_cons_of_mem _ hz)).2.2.2) (by intro hm; simp at hm; subst hm; exact H0.out.2.2.2 hz)
              have HF := Lib.hid (And.intro (tw5.turn T2 (by simp)) (And.intro B2 ((sm6.sub (fun z hz => List.mem_cons_of_mem _ hz)).trans hgX)))
              clear B1 B2 T2 hgX tw5 sm5 sm6 b6 SY2
              go_wp2_with fail
              go_ret
              refine ⟨by rw [HK3.out]; rfl, by rw [HK3.out]; exact HF.out.1, HF.out.2.2, ?_⟩
              rw [HK3.out, if_pos rfl]
              have := HF.out.2.1
              rw [show (size : Int) + 8 + (bs.length : Int) = ((size + 8 + bs.length : Nat) : Int) by omega, show (ct : Int) + 1 = ((ct + 1 : Nat) : Int) by omega] at this
              exact this
            · have HF := Lib.hid (And.intro tw5 (And.intro b6 (sm6.sub (fun z hz => List.mem_cons_of_mem _ hz))))
              clear tw5 sm5 sm6 b6 SY2
              go_wp2_with fail
              go_ret
              refine ⟨by rw [HK3.out]; rfl, by rw [HK3.out]; exact HF.out.1, HF.out.2.2, ?_⟩
              rw [HK3.out, if_neg (show ¬ ((15 : Int) = 0) by decide)]
              exact HF.out.2.1
          · have hk2 := hk2 (by decide)
            have HF := Lib.hid (And.intro tw9 (And.intro bQ (And.intro (sm10.sub (fun z hz => List.mem_cons_of_mem _ hz)) hk2)))
            clear hk2 hk3 hs3 hcd tw9 sm9 sm8 sm10 bQ m7 m8 S7 S8 S9 W8 hal
            go_wp2_with fail
            go_ret
            refine ⟨by rw [HF.out.2.2.2]; rfl, by rw [HF.out.2.2.2]; exact HF.out.1, HF.out.2.2.1, ?_⟩
            rw [HF.out.2.2.2, if_neg (show ¬ ((15 : Int) = 0) by decide)]
            exact HF.out.2.1
        · have hap := HP.out.2.2.1 _ 15 size ct bs HPG.out (by decide)
          have HF := Lib.hid (And.intro hap (And.intro tw3 (And.intro (smz.sub (fun z hz => List.mem_cons_of_mem _ hz)) bZ)))
          clear hap tw2 sm2 smz tw3 bZ SY
          go_wp2_with fail
          go_ret
          refine ⟨by rw [HF.out.1]; rfl, by rw [HF.out.1]; exact HF.out.2.1, HF.out.2.2.1, ?_⟩
          rw [HF.out.1, if_neg (show ¬ ((15 : Int) = 0) by decide)]
          exact HF.out.2.2.2
  · have hr' : 0 < (size : Int) % 64 := by omega
    have RD := Lib.hid (TRRead ((H0.out.1.turn HWd.out (by simp)).turn HM0.out.turns (by simp)) k0 hkp HD.out)
    obtain ⟨r, hrr⟩ : ∃ r, r = size % 64 := ⟨_, rfl⟩
    have HRR := Lib.hid hrr
    have HRI := Lib.hid (show (size : Int) % 64 = r by omega)
    have hr64 : r ≤ 64 := by omega
    clear hr hrr
    go_wp2_with fail
    refine RD.out.mono ?_
    rintro e Wb ⟨v1, rfl, o1, t1⟩
    have c1b := cellW t1 c1a
    have m1 := HM0.out.on t1
    have s1 := (Sl.of_own o1)
    obtain ⟨A1, cc1, rfl⟩ := own_formV o1
    have hcc : 64 ≤ cc1 ∧ cc1 ≤ 9223372036854775807 := by
      obtain ⟨_, _, _, ee, h1, h2, _⟩ := s1
      injection ee with _ _ e3
      subst e3
      unfold maxLen at h2
      omega
    have s2 : Sl Wb Wb.heap.size 1 (.slice A1 r cc1) r (bvs ((pageAt sx.now k0).take r)) := by
      have h1 := s1.to hr64
      rw [bvs_take] at h1
      exact h1
    have rt := run_to A1 64 cc1 r hr64 hcc.1
    rw [← HRI.out] at rt
    obtain ⟨v2, Wc, hr2, ap⟩ := run_append_rd (P := Try.prog) _ T8 34 m1.own s2 (bvs_one _) (by simp only [maxLen, List.length_nil]; omega) (by simp only [List.length_nil]; omega) (m1.turns.size)
    rw [← bvs_append] at ap
    have mn := mine_apd m1 ap
    have hpre : (([] : List UInt8) ++ (pageAt sx.now k0).take r).length ≤ 64 := by rw [List.nil_append, List.length_take]; omega
    have hbe : b0 = ([] : List UInt8) ++ (pageAt sx.now k0).take r ++ le8 (bs.length : Nat) ++ bs := by rw [HB.out, ← HRR.out, List.nil_append, List.append_assoc]; rfl
    obtain ⟨pre, hpr⟩ : ∃ pre, pre = ([] : List UInt8) ++ (pageAt sx.now k0).take r := ⟨_, rfl⟩
    rw [← hpr] at mn hpre hbe
    obtain ⟨A2, cc2, hv2⟩ := own_formV mn.own
    rw [hv2] at mn hr2
    have HBE := Lib.hid hbe
    clear ap s2 s1 o1 m1 t1 hbe hpr RD hv2 c0a c1a
    go_upto_region 13 with (at_builtin; refine wpList_append_at rfl (.tmp 65) (.tmp 72) rfl hr2 rfl rfl ?_)
    have RI := Lib.hid (RInt (bs.length : Int) mn (by omega))
    go_wp2_with fail
    refine RI.out.mono ?_
    rintro e Wx ⟨v4, rfl, m4⟩
    obtain ⟨pl, hpl9⟩ : ∃ pl, pl = pre ++ le8 (bs.length : Nat) := ⟨_, rfl⟩
    rw [← hpl9] at m4
    have hbe9 : b0 = pl ++ bs := by rw [hpl9]; exact HBE.out
    obtain ⟨A4, cc4, rfl⟩ := own_formV m4.own
    have t4 := HWd.out.trans m4.turns (by simp)
    have hsb := (t4.slice H0.out.2.2.1 (Nat.le_refl _) (by simp)).more t4.size
    have hl4 : pl.length ≤ 72 := by rw [hpl9, List.length_append, le8_length]; omega
    obtain ⟨v5, Wy, hr5, ap⟩ := run_append_rd (P := Try.prog) _ T8 34 m4.own hsb (bvs_one _) (by simp only [maxLen]; omega) (by omega) m4.turns.size
    rw [← bvs_append, ← hbe9] at ap
    have m5 := mine_apd m4 ap
    obtain ⟨y, cy, hv5, hcy1, hcy2, hy3, hy4, _⟩ := own_cells m5.own (by have := HL.out.1; omega)
    rw [hv5] at m5 hr5
    have tY : Turns [] w Wy := HWd.out.trans m5.turns (by simp)
    have twy := H0.out.1.more tY (by omega) hy4
    have smy : Same (gl :: X) w Wy := H0.out.1.same tY
    have hsl := m5.sl
    have hyg : y ≠ gl := by intro e; subst e; have := H0.out.2.1.lt; omega
    unfold maxLen at hcy2
    have HY := Lib.hid (And.intro twy (And.intro smy hsl))
    have hb0l : b0.length ≤ 70000 := by have := HL.out.1; omega
    clear ap hsb t4 m4 m5 hv5 hy3 hy4 tY twy smy hsl RI mn hl4 hpre hpl9 hbe9
    go_wp2_with (at_builtin; refine wpList_append_at rfl (.tmp 77) (.tmp 78) rfl hr5 rfl rfl ?_)
    go_loopw [6, 10] (fun pv i wr => RapR w0 g xg p (y :: gl :: X) st Wy res b0 k0 pv i wr) (fun _ i _ => b0.length + 100 - (intOf i).toNat)
    case atStart => exact ⟨0, 0, k0, sx, rfl, rfl, rfl, rfl, by omega, HY.out.1, (fun z hz => rfl), HD.out, by have := HL.out.2.2; omega, by rw [List.drop_zero]; exact HR.out⟩
    case round =>
      obtain ⟨m, iv, pk, s1, rfl, rfl, hpk, hiv, hivl, tw, sm, hds, hwl, hres⟩ := hrel
      obtain ⟨Z, hZ⟩ : ∃ Z, Z = wr := ⟨_, rfl⟩
      subst hZ
      have smz := HY.out.2.1.trans (sm.sub (fun z hz => List.mem_cons_of_mem _ hz))
      have bZ := smz.blk (x := gl) (by simp) H0.out.2.1
      have c0 := bZ.cell 0
      have c1 := bZ.cell 1
      have c2 := bZ.cell 2
      simp only [XLG, List.getElem?_cons_zero, List.getElem?_cons_succ] at c0 c1 c2
      by_cases hlt : iv < b0.length
      · have hltI : (iv : Int) < b0.length := by omega
        obtain ⟨hi, hhi⟩ : ∃ hi, hi = min (iv + 64) b0.length := ⟨_, rfl⟩
        have hh1 : iv ≤ hi := by omega
        have hh2 : hi ≤ b0.length := by omega
        have hh3 : hi - iv ≤ 64 := by omega
        have MM := Lib.hid (show (if (b0.length : Int) < (iv : Int) + 64 then (b0.length : Int) else (iv : Int) + 64) = hi by split <;> omega)
        have rg := run_rng (some ⟨y, 0, none⟩) b0.length cy iv hi hh1 hh2 hcy1
        have hdl : (b0.drop iv).length = b0.length - iv := List.length_drop
        have hst := wchunks_step s1 pk (b0.drop iv) (by omega)
        rw [List.drop_drop, ← hres] at hst
        obtain ⟨pg, hpg⟩ : ∃ pg, pg = (b0.drop iv).take 64 := ⟨_, rfl⟩
        have hpgl : pg.length = hi - iv := by rw [hpg, List.length_take, hdl]; omega
        rw [← hpg] at hst
        have hslz := sl_same HY.out.2.2 sm (by simp)
        have hsp : Sl Z Z.heap.size 1 (.slice (adr (some ⟨y, 0, none⟩) cy iv) pg.length (cy - iv)) pg.length (bvs pg) := by
          have h1 := (sl_off hslz (Nat.le_of_lt hlt)).to (show hi - iv ≤ b0.length - iv by omega)
          rw [bvs_drop, bvs_take] at h1
          have e : (b0.drop iv).take (hi - iv) = pg := by
            rw [hpg]
            by_cases h : hi - iv = 64
            · rw [h]
            · rw [List.take_of_length_le (by omega), List.take_of_length_le (by omega)]
          rw [e] at h1
          rw [hpgl]; exact h1
        obtain ⟨cd, hcd⟩ : ∃ cd, cd = s1.code := ⟨_, rfl⟩
        have hpkp : pk < p := by have := HL.out.2.1; omega
        have WR := TRWrite (tw.turn (Turns.refl [] Z).drew (by simp)) pk _ (cy - iv) pg hsp.drew hpkp (by omega) hds (by omega)
        rw [hpgl, ← hcd] at WR
        replace WR := Lib.hid WR
        have HT := Lib.hid (And.intro hst hcd)
        have HM := Lib.hid (And.intro hds (And.intro hpk (And.intro hiv (And.intro hwl (And.intro sm hivl)))))
        have hivb : (iv : Int) ≤ 70063 := by omega
        have hwi : IntKind.i64.wrap ((iv : Int) + 64) = (iv : Int) + 64 := by rw [IntKind.wrap_i64]; omega
        have hhiI : (hi : Int) ≤ 70000 := by omega
        have hpkb : pk ≤ 4096 := by omega
        clear hhi hdl hst hpg hpgl hslz hsp hcd hres tw sm smz bZ c1 c2 hds hpk hiv hwl
        go_upto_region 17 with fail
        refine reg_begin (fun W => W.cell? ⟨gl, 0, none⟩ = some (.pointer (some ⟨xg, 0, none⟩))) (fun _ => True) 15 15 #[false, false, false, false, false, false, false, false, false, false, false, false, false, false, false] (by kernel_rfl) (by kernel_rfl) (by kernel_rfl) ?_
        refine reg_take 0 86 14 #[true, false, false, false, false, false, false, false, false, false, false, false, false, false, false] (by rfl) (v := ?_) rfl rfl (by kernel_rfl) (by kernel_rfl) (by kernel_rfl) (by kernel_rfl) (fun _ _ _ h => h) (by rfl) ?_ (Till.mk' c0 trivial) ?_
        rotate_left
        · intro W hS; go_simp; all_goals with_reducible rfl
        try simp only [List.setIfInBounds_toArray, List.set_cons_succ, List.set_cons_zero]
        refine reg_take 1 87 13 #[true, true, false, false, false, false, false, false, false, false, false, false, false, false, false] (by rfl) (v := ?_) rfl rfl (by kernel_rfl) (by kernel_rfl) (by kernel_rfl) (by kernel_rfl) (fun _ _ _ h => h) (by rfl) ?_ (Till.mk' c0 trivial) ?_
        rotate_left
        · intro W hS; go_simp; all_goals with_reducible rfl
        try simp only [List.setIfInBounds_toArray, List.set_cons_succ, List.set_cons_zero]
        refine reg_take 2 88 12 #[true, true, true, false, false, false, false, false, false, false, false, false, false, false, false] (by rfl) (v := ?_) rfl rfl (by kernel_rfl) (by kernel_rfl) (by kernel_rfl) (by kernel_rfl) (fun _ _ _ h => h) (by rfl) ?_ (Till.mk' c0 trivial) ?_
        rotate_left
        · intro W hS; go_simp; all_goals with_reducible rfl
        try simp only [List.setIfInBounds_toArray, List.set_cons_succ, List.set_cons_zero]
        refine reg_take 3 89 11 #[true, true, true, true, false, false, false, false, false, false, false, false, false, false, false] (by rfl) (v := ?_) rfl rfl (by kernel_rfl) (by kernel_rfl) (by kernel_rfl) (by kernel_rfl) (fun _ _ _ h => h) (by rfl) ?_ (Till.mk' c0 trivial) ?_
        rotate_left
        · intro W hS; have c9 : W.cell? ⟨gl, 0, none⟩ = some (.pointer (some ⟨xg, 0, none⟩)) := hS; go_simp; all_goals with_reducible rfl
        try simp only [List.setIfInBounds_toArray, List.set_cons_succ, List.set_cons_zero]
        refine reg_take 4 90 10 #[true, true, true, true, true, false, false, false, false, false, false, false, false, false, false] (by rfl) (v := ?_) rfl rfl (by kernel_rfl) (by kernel_rfl) (by kernel_rfl) (by kernel_rfl) (fun _ _ _ h => h) (by rfl) ?_ (Till.mk' c0 trivial) ?_
        rotate_left
        · intro W hS; go_simp; all_goals with_reducible rfl
        try simp only [List.setIfInBounds_toArray, List.set_cons_succ, List.set_cons_zero]
        refine reg_take 5 91 9 #[true, true, true, true, true, true, false, false, false, false, false, false, false, false, false] (by rfl) (v := ?_) rfl rfl (by kernel_rfl) (by kernel_rfl) (by kernel_rfl) (by kernel_rfl) (fun _ _ _ h => h) (by rfl) ?_ (Till.mk' c0 trivial) ?_
        rotate_left
        · intro W hS; go_simp; all_goals with_reducible rfl
        try simp only [List.setIfInBounds_toArray, List.set_cons_succ, List.set_cons_zero]
        refine reg_take 6 92 8 #[true, true, true, true, true, true, true, false, false, false, false, false, false, false, false] (by rfl) (v := ?_) rfl rfl (by kernel_rfl) (by kernel_rfl) (by kernel_rfl) (by kernel_rfl) (fun _ _ _ h => h) (by rfl) ?_ (Till.mk' c0 trivial) ?_
        rotate_left
        · intro W hS; go_simp; all_goals with_reducible rfl
        try simp only [List.setIfInBounds_toArray, List.set_cons_succ, List.set_cons_zero]
        refine reg_take 7 93 7 #[true, true, true, true, true, true, true, true, false, false, false, false, false, false, false] (by rfl) (v := ?_) rfl rfl (by kernel_rfl) (by kernel_rfl) (by kernel_rfl) (by kernel_rfl) (fun _ _ _ h => h) (by rfl) ?_ (Till.mk' c0 trivial) ?_
        rotate_left
        · intro W hS; go_simp; all_goals with_reducible rfl
        try simp only [List.setIfInBounds_toArray, List.set_cons_succ, List.set_cons_zero]
        refine reg_take 8 94 6 #[true, true, true, true, true, true, true, true, true, false, false, false, false, false, false] (by rfl) (v := ?_) rfl rfl (by kernel_rfl) (by kernel_rfl) (by kernel_rfl) (by kernel_rfl) (fun _ _ _ h => h) (by rfl) ?_ (Till.mk' c0 trivial) ?_
        rotate_left
        · intro W hS; go_simp; all_goals with_reducible rfl
        try simp only [List.setIfInBounds_toArray, List.set_cons_succ, List.set_cons_zero]
        refine reg_take 9 95 5 #[true, true, true, true, true, true, true, true, true, true, false, false, false, false, false] (by rfl) (v := ?_) rfl rfl (by kernel_rfl) (by kernel_rfl) (by kernel_rfl) (by kernel_rfl) (fun _ _ _ h => h) (by rfl) ?_ (Till.mk' c0 trivial) ?_
        rotate_left
        · intro W hS; go_simp; all_goals with_reducible rfl
        try simp only [List.setIfInBounds_toArray, List.set_cons_succ, List.set_cons_zero]
        refine reg_take 10 96 4 #[true, true, true, true, true, true, true, true, true, true, true, false, false, false, false] (by rfl) (v := ?_) rfl rfl (by kernel_rfl) (by kernel_rfl) (by kernel_rfl) (by kernel_rfl) (fun _ _ _ h => h) (by rfl) ?_ (Till.mk' c0 trivial) ?_
        rotate_left
        · intro W hS; go_simp; all_goals with_reducible rfl
        try simp only [List.setIfInBounds_toArray, List.set_cons_succ, List.set_cons_zero]
        refine reg_take 11 97 3 #[true, true, true, true, true, true, true, true, true, true, true, true, false, false, false] (by rfl) (v := ?_) rfl rfl (by kernel_rfl) (by kernel_rfl) (by kernel_rfl) (by kernel_rfl) (fun _ _ _ h => h) (by rfl) ?_ (Till.mk' c0 trivial) ?_
        rotate_left
        · intro W hS; have hm9 := MM.out; go_simp; all_goals with_reducible rfl
        try simp only [List.setIfInBounds_toArray, List.set_cons_succ, List.set_cons_zero]
        refine reg_take 12 98 2 #[true, true, true, true, true, true, true, true, true, true, true, true, true, false, false] (by rfl) (v := ?_) rfl rfl (by kernel_rfl) (by kernel_rfl) (by kernel_rfl) (by kernel_rfl) (fun _ _ _ h => h) (by rfl) ?_ (Till.mk' c0 trivial) ?_
        rotate_left
        · intro W hS; have c9 := rg W; go_simp; all_goals with_reducible rfl
        try simp only [List.setIfInBounds_toArray, List.set_cons_succ, List.set_cons_zero]
        refine reg_one 13 1 #[true, true, true, true, true, true, true, true, true, true, true, true, true, true, false] (by kernel_rfl) rfl (by rfl) (by kernel_rfl) (fun K hK => ?_)
        go_simp
        refine WR.out.mono ?_
        rintro e y1 ⟨rfl, a1, sm1⟩
        refine hK _ _ (Till.mk' ((sm1.cell (x := gl) (by simp)).trans c0) trivial) ?_
        clear hK K
        try simp only [List.setIfInBounds_toArray, List.set_cons_succ, List.set_cons_zero]
        refine reg_take 14 11 0 #[true, true, true, true, true, true, true, true, true, true, true, true, true, true, true] (by rfl) (v := ?_) rfl rfl (by kernel_rfl) (by kernel_rfl) (by kernel_rfl) (by kernel_rfl) (fun _ _ _ h => h) (by rfl) ?_ (Till.mk' ((sm1.cell (x := gl) (by simp)).trans c0) trivial) ?_
        rotate_left
        · intro W hS; go_simp; all_goals with_reducible rfl
        try simp only [List.setIfInBounds_toArray, List.set_cons_succ, List.set_cons_zero]
        refine reg_done (by kernel_rfl) ?_ _
        have hc2 : cd = 0 ∨ cd = 15 := by rw [HT.out.2]; exact code_two s1
        rcases hc2 with hc | hc
        · subst hc
          have hal := wrote_alive s1 pk (pageOf pg) HM.out.1 HT.out.2.symm
          have hst := HT.out.1
          rw [if_pos HT.out.2.symm] at hst
          have hwl2 := wrote_wl s1 pk (pageOf pg)
          have HF := Lib.hid (And.intro a1 (And.intro (HM.out.2.2.2.2.1.trans sm1) (And.intro hal (And.intro hst hwl2))))
          clear a1 sm1 hal hst hwl2 WR
          go_wp2_with fail
          go_roundw
          case rel => exact ⟨m + 1, iv + 64, pk + 1, s1.wrote pk (pageOf pg), by go_num, by go_num, by have := HM.out.2.1; omega, by have := HM.out.2.2.1; omega, by omega, HF.out.1, HF.out.2.1, HF.out.2.2.1, by have := HF.out.2.2.2.2; have := HM.out.2.2.2.1; omega, HF.out.2.2.2.1⟩
          case measure => (simp [intOf] <;> omega)
        · subst hc
          have hpg := HP.out.2.1 (s1.wrote pk (pageOf pg)) 15 (by decide) (by rw [HT.out.1, if_neg (by rw [← HT.out.2]; decide), ← HT.out.2])
          have hap := HP.out.2.2.1 _ 15 size ct bs hpg (by decide)
          have smw := HY.out.2.1.trans ((HM.out.2.2.2.2.1.trans sm1).sub (fun z hz => List.mem_cons_of_mem _ hz))
          have HF := Lib.hid (And.intro hap (And.intro (a1.sub (Y := gl :: X) (fun z hz => List.mem_cons_of_mem _ hz)) (And.intro (smw.sub (fun z hz => List.mem_cons_of_mem _ hz)) (smw.blk (x := gl) (by simp) H0.out.2.1))))
          clear hpg hap smw a1 sm1 WR
          go_wp2_with fail
          go_ret
          refine ⟨by rw [HF.out.1]; rfl, by rw [HF.out.1]; exact HF.out.2.1, HF.out.2.2.1, ?_⟩
          rw [HF.out.1, if_neg (show ¬ ((15 : Int) = 0) by decide)]
          exact HF.out.2.2.2
      · have hltI : ¬ (iv : Int) < b0.length := by omega
        have hdr : b0.drop iv = [] := List.drop_of_length_le (by omega)
        rw [hdr, wchunks_nil] at hres
        have hpg := HP.out.1 s1 hres
        have SY := TRSync tw
        have hso := sync_out s1 hds
        obtain ⟨cs, hcs⟩ : ∃ cs, cs = s1.syncCode := ⟨_, rfl⟩
        rw [← hcs] at SY hpg hso
        obtain ⟨s2, hs2⟩ : ∃ s2, s2 = s1.sync := ⟨_, rfl⟩
        rw [← hs2] at SY hpg hso
        have h2 : cs = 0 ∨ cs = 15 := by rw [hcs]; exact syncCode_two s1
        have HPG := Lib.hid hpg
        have HSO := Lib.hid hso
        have HSM := Lib.hid smz
        replace SY := Lib.hid SY
        clear hdr hres hpg hso hcs hs2 tw sm smz bZ hds hpk hiv hwl c1 c2
        go_wp2_with fail
        refine SY.out.mono ?_
        rintro e Zs ⟨rfl, tw2, sm2⟩
        have smz := HSM.out.trans (sm2.sub (fun z hz => List.mem_cons_of_mem _ hz))
        have tw3 := tw2.sub (Y := gl :: X) (fun z hz => List.mem_cons_of_mem _ hz)
        have bZ := smz.blk (x := gl) (by simp) H0.out.2.1
        rcases h2 with rfl | rfl
        · rcases HSO.out with ⟨q, _⟩ | ⟨_, q1, q2, q3, q4, q5⟩
          · cases q
          have c0 := bZ.cell 0
          have c1 := bZ.cell 1
          have c2 := bZ.cell 2
          simp only [XLG, List.getElem?_cons_zero, List.getElem?_cons_succ] at c0 c1 c2
          obtain ⟨Zd, hZd⟩ : ∃ Zd, Zd = Zs.drew := ⟨_, rfl⟩
          have tZd : Turns [] Zs Zd := by rw [hZd]; exact (Turns.refl _ _).drew
          have S23 : (Zd.cell? ⟨gl, 0, none⟩ = some (.pointer (some ⟨xg, 0, none⟩)) ∧ Zd.cell? ⟨gl, 1, none⟩ = some (.int .i64 size)) ∧ Zd.cell? ⟨gl, 2, none⟩ = some (.int .i64 ct) := ⟨⟨cellW tZd c0, cellW tZd c1⟩, cellW tZd c2⟩
          have HZ := Lib.hid (And.intro (tw3.turn tZd (by simp)) (And.intro (smz.trans (tw3.same tZd)) (And.intro q4 q2)))
          have HZd := Lib.hid hZd
          have hws : IntKind.i64.wrap ((size : Int) + 8) = (size : Int) + 8 := by rw [IntKind.wrap_i64]; omega
          have hws2 : IntKind.i64.wrap ((size : Int) + 8 + (bs.length : Int)) = (size : Int) + 8 + (bs.length : Int) := by rw [IntKind.wrap_i64]; omega
          have hwct : IntKind.i64.wrap ((ct : Int) + 1) = (ct : Int) + 1 := by rw [IntKind.wrap_i64]; omega
          clear hZd tZd tw2 sm2 smz tw3 bZ c0 c1 c2 q1 q2 q3 q4 q5 SY
          go_upto_region 23 with fail
          refine reg_begin (fun W => (W.cell? ⟨gl, 0, none⟩ = some (.pointer (some ⟨xg, 0, none⟩)) ∧ W.cell? ⟨gl, 1, none⟩ = some (.int .i64 size)) ∧ W.cell? ⟨gl, 2, none⟩ = some (.int .i64 ct)) (fun _ => True) 21 21 #[false, false, false, false, false, false, false, false, false, false, false, false, false, false, false, false, false, false, false, false, false] (by kernel_rfl) (by kernel_rfl) (by kernel_rfl) ?_
          rw [← HZd.out]
          refine reg_take 0 112 20 #[true, false, false, false, false, false, false, false, false, false, false, false, false, false, false, false, false, false, false, false, false] (by rfl) (v := ?_) rfl rfl (by kernel_rfl) (by kernel_rfl) (by kernel_rfl) (by kernel_rfl) (fun _ _ _ h => h) (by rfl) ?_ (Till.mk' S23 trivial) ?_
          rotate_left
          · rintro W ⟨⟨hS1, hS2⟩, hS3⟩; go_simp; all_goals with_reducible rfl
          try simp only [List.setIfInBounds_toArray, List.set_cons_succ, List.set_cons_zero]
          refine reg_take 1 113 19 #[true, true, false, false, false, false, false, false, false, false, false, false, false, false, false, false, false, false, false, false, false] (by rfl) (v := ?_) rfl rfl (by kernel_rfl) (by kernel_rfl) (by kernel_rfl) (by kernel_rfl) (fun _ _ _ h => h) (by rfl) ?_ (Till.mk' S23 trivial) ?_
          rotate_left
          · rintro W ⟨⟨hS1, hS2⟩, hS3⟩; go_simp; all_goals with_reducible rfl
          try simp only [List.setIfInBounds_toArray, List.set_cons_succ, List.set_cons_zero]
          refine reg_take 2 114 18 #[true, true, true, false, false, false, false, false, false, false, false, false, false, false, false, false, false, false, false, false, false] (by rfl) (v := ?_) rfl rfl (by kernel_rfl) (by kernel_rfl) (by kernel_rfl) (by kernel_rfl) (fun _ _ _ h => h) (by rfl) ?_ (Till.mk' S23 trivial) ?_
          rotate_left
          · rintro W ⟨⟨hS1, hS2⟩, hS3⟩; go_simp; all_goals with_reducible rfl
          try simp only [List.setIfInBounds_toArray, List.set_cons_succ, List.set_cons_zero]
          refine reg_take 3 115 17 #[true, true, true, true, false, false, false, false, false, false, false, false, false, false, false, false, false, false, false, false, false] (by rfl) (v := ?_) rfl rfl (by kernel_rfl) (by kernel_rfl) (by kernel_rfl) (by kernel_rfl) (fun _ _ _ h => h) (by rfl) ?_ (Till.mk' S23 trivial) ?_
          rotate_left
          · rintro W ⟨⟨hS1, hS2⟩, hS3⟩; go_simp; all_goals with_reducible rfl
          try simp only [List.setIfInBounds_toArray, List.set_cons_succ, List.set_cons_zero]
          refine reg_take 4 116 16 #[true, true, true, true, true, false, false, false, false, false, false, false, false, false, false, false, false, false, false, false, false] (by rfl) (v := ?_) rfl rfl (by kernel_rfl) (by kernel_rfl) (by kernel_rfl) (by kernel_rfl) (fun _ _ _ h => h) (by rfl) ?_ (Till.mk' S23 trivial) ?_
          rotate_left
          · rintro W ⟨⟨hS1, hS2⟩, hS3⟩; go_simp; all_goals with_reducible rfl
          try simp only [List.setIfInBounds_toArray, List.set_cons_succ, List.set_cons_zero]
          refine reg_take 5 117 15 #[true, true, true, true, true, true, false, false, false, false, false, false, false, false, false, false, false, false, false, false, false] (by rfl) (v := ?_) rfl rfl (by kernel_rfl) (by kernel_rfl) (by kernel_rfl) (by kernel_rfl) (fun _ _ _ h => h) (by rfl) ?_ (Till.mk' S23 trivial) ?_
          rotate_left
          · rintro W ⟨⟨hS1, hS2⟩, hS3⟩; go_simp; all_goals with_reducible rfl
          try simp only [List.setIfInBounds_toArray, List.set_cons_succ, List.set_cons_zero]
          refine reg_take 6 118 14 #[true, true, true, true, true, true, true, false, false, false, false, false, false, false, false, false, false, false, false, false, false] (by rfl) (v := ?_) rfl rfl (by kernel_rfl) (by kernel_rfl) (by kernel_rfl) (by kernel_rfl) (fun _ _ _ h => h) (by rfl) ?_ (Till.mk' S23 trivial) ?_
          rotate_left
          · rintro W ⟨⟨hS1, hS2⟩, hS3⟩; go_simp; all_goals with_reducible rfl
          try simp only [List.setIfInBounds_toArray, List.set_cons_succ, List.set_cons_zero]
          refine reg_take 7 119 13 #[true, true, true, true, true, true, true, true, false, false, false, false, false, false, false, false, false, false, false, false, false] (by rfl) (v := ?_) rfl rfl (by kernel_rfl) (by kernel_rfl) (by kernel_rfl) (by kernel_rfl) (fun _ _ _ h => h) (by rfl) ?_ (Till.mk' S23 trivial) ?_
          rotate_left
          · rintro W ⟨⟨hS1, hS2⟩, hS3⟩; go_simp; all_goals with_reducible rfl
          try simp only [List.setIfInBounds_toArray, List.set_cons_succ, List.set_cons_zero]
          refine reg_take 8 120 12 #[true, true, true, true, true, true, true, true, true, false, false, false, false, false, false, false, false, false, false, false, false] (by rfl) (v := ?_) rfl rfl (by kernel_rfl) (by kernel_rfl) (by kernel_rfl) (by kernel_rfl) (fun _ _ _ h => h) (by rfl) ?_ (Till.mk' S23 trivial) ?_
          rotate_left
          · rintro W ⟨⟨hS1, hS2⟩, hS3⟩; go_simp; all_goals with_reducible rfl
          try simp only [List.setIfInBounds_toArray, List.set_cons_succ, List.set_cons_zero]
          refine reg_take 9 121 11 #[true, true, true, true, true, true, true, true, true, true, false, false, false, false, false, false, false, false, false, false, false] (by rfl) (v := ?_) rfl rfl (by kernel_rfl) (by kernel_rfl) (by kernel_rfl) (by kernel_rfl) (fun _ _ _ h => h) (by rfl) ?_ (Till.mk' S23 trivial) ?_
          rotate_left
          · rintro W ⟨⟨hS1, hS2⟩, hS3⟩; go_simp; all_goals with_reducible rfl
          try simp only [List.setIfInBounds_toArray, List.set_cons_succ, List.set_cons_zero]
          refine reg_take 10 122 10 #[true, true, true, true, true, true, true, true, true, true, true, false, false, false, false, false, false, false, false, false, false] (by rfl) (v := ?_) rfl rfl (by kernel_rfl) (by kernel_rfl) (by kernel_rfl) (by kernel_rfl) (fun _ _ _ h => h) (by rfl) ?_ (Till.mk' S23 trivial) ?_
          rotate_left
          · rintro W ⟨⟨hS1, hS2⟩, hS3⟩; go_simp; all_goals with_reducible rfl
          try simp only [List.setIfInBounds_toArray, List.set_cons_succ, List.set_cons_zero]
          refine reg_take 11 123 9 #[true, true, true, true, true, true, true, true, true, true, true, true, false, false, false, false, false, false, false, false, false] (by rfl) (v := ?_) rfl rfl (by kernel_rfl) (by kernel_rfl) (by kernel_rfl) (by kernel_rfl) (fun _ _ _ h => h) (by rfl) ?_ (Till.mk' S23 trivial) ?_
          rotate_left
          · rintro W ⟨⟨hS1, hS2⟩, hS3⟩; go_simp; all_goals with_reducible rfl
          try simp only [List.setIfInBounds_toArray, List.set_cons_succ, List.set_cons_zero]
          refine reg_take 13 125 8 #[true, true, true, true, true, true, true, true, true, true, true, true, false, true, false, false, false, false, false, false, false] (by rfl) (v := ?_) rfl rfl (by kernel_rfl) (by kernel_rfl) (by kernel_rfl) (by kernel_rfl) (fun _ _ _ h => h) (by rfl) ?_ (Till.mk' S23 trivial) ?_
          rotate_left
          · rintro W ⟨⟨hS1, hS2⟩, hS3⟩; go_simp; all_goals with_reducible rfl
          try simp only [List.setIfInBounds_toArray, List.set_cons_succ, List.set_cons_zero]
          refine reg_take 14 126 7 #[true, true, true, true, true, true, true, true, true, true, true, true, false, true, true, false, false, false, false, false, false] (by rfl) (v := ?_) rfl rfl (by kernel_rfl) (by kernel_rfl) (by kernel_rfl) (by kernel_rfl) (fun _ _ _ h => h) (by rfl) ?_ (Till.mk' S23 trivial) ?_
          rotate_left
          · rintro W ⟨⟨hS1, hS2⟩, hS3⟩; go_simp; all_goals with_reducible rfl
          try simp only [List.setIfInBounds_toArray, List.set_cons_succ, List.set_cons_zero]
          refine reg_take 15 127 6 #[true, true, true, true, true, true, true, true, true, true, true, true, false, true, true, true, false, false, false, false, false] (by rfl) (v := ?_) rfl rfl (by kernel_rfl) (by kernel_rfl) (by kernel_rfl) (by kernel_rfl) (fun _ _ _ h => h) (by rfl) ?_ (Till.mk' S23 trivial) ?_
          rotate_left
          · rintro W ⟨⟨hS1, hS2⟩, hS3⟩; go_simp; all_goals with_reducible rfl
          try simp only [List.setIfInBounds_toArray, List.set_cons_succ, List.set_cons_zero]
          refine reg_take 16 128 5 #[true, true, true, true, true, true, true, true, true, true, true, true, false, true, true, true, true, false, false, false, false] (by rfl) (v := ?_) rfl rfl (by kernel_rfl) (by kernel_rfl) (by kernel_rfl) (by kernel_rfl) (fun _ _ _ h => h) (by rfl) ?_ (Till.mk' S23 trivial) ?_
          rotate_left
          · rintro W ⟨⟨hS1, hS2⟩, hS3⟩; go_simp; all_goals with_reducible rfl
          try simp only [List.setIfInBounds_toArray, List.set_cons_succ, List.set_cons_zero]
          refine reg_take 17 129 4 #[true, true, true, true, true, true, true, true, true, true, true, true, false, true, true, true, true, true, false, false, false] (by rfl) (v := ?_) rfl rfl (by kernel_rfl) (by kernel_rfl) (by kernel_rfl) (by kernel_rfl) (fun _ _ _ h => h) (by rfl) ?_ (Till.mk' S23 trivial) ?_
          rotate_left
          · rintro W ⟨⟨hS1, hS2⟩, hS3⟩; go_simp; all_goals with_reducible rfl
          try simp only [List.setIfInBounds_toArray, List.set_cons_succ, List.set_cons_zero]
          refine reg_one 12 3 #[true, true, true, true, true, true, true, true, true, true, true, true, true, true, true, true, true, true, false, false, false] (by kernel_rfl) rfl (by rfl) (by kernel_rfl) (fun K hK => ?_)
          go_simp
          refine (RInt ((size : Int) + 8 + (bs.length : Int)) (Mine.nil (Turns.refl [] Zd)) (by simp)).mono ?_
          rintro e q1 ⟨v7, rfl, m7⟩
          rw [List.nil_append] at m7
          have S7 : (q1.cell? ⟨gl, 0, none⟩ = some (.pointer (some ⟨xg, 0, none⟩)) ∧ q1.cell? ⟨gl, 1, none⟩ = some (.int .i64 size)) ∧ q1.cell? ⟨gl, 2, none⟩ = some (.int .i64 ct) := ⟨⟨cellW m7.turns S23.1.1, cellW m7.turns S23.1.2⟩, cellW m7.turns S23.2⟩
          refine hK _ _ (Till.mk' S7 trivial) ?_
          clear hK K
          try simp only [List.setIfInBounds_toArray, List.set_cons_succ, List.set_cons_zero]
          refine reg_one 18 2 #[true, true, true, true, true, true, true, true, true, true, true, true, true, true, true, true, true, true, true, false, false] (by kernel_rfl) rfl (by rfl) (by kernel_rfl) (fun K hK => ?_)
          go_simp
          refine (RInt ((ct : Int) + 1) m7 (by rw [le8_length]; omega)).mono ?_
          rintro e q2 ⟨v8, rfl, m8⟩
          have S8 : (q2.cell? ⟨gl, 0, none⟩ = some (.pointer (some ⟨xg, 0, none⟩)) ∧ q2.cell? ⟨gl, 1, none⟩ = some (.int .i64 size)) ∧ q2.cell? ⟨gl, 2, none⟩ = some (.int .i64 ct) := ⟨⟨cellW m8.turns S23.1.1, cellW m8.turns S23.1.2⟩, cellW m8.turns S23.2⟩
          rw [show (size : Int) + 8 + (bs.length : Int) = ((size + 8 + bs.length : Nat) : Int) by omega, show (ct : Int) + 1 = ((ct + 1 : Nat) : Int) by omega, show le8 ((size + 8 + bs.length : Nat) : Int) ++ le8 ((ct + 1 : Nat) : Int) = headB (size + 8 + bs.length) (ct + 1) from rfl] at m8
          obtain ⟨A8, cc8, rfl⟩ := own_formV m8.own
          have W8 := TRWrite (HZ.out.1.turn m8.turns (by simp)) 0 A8 cc8 (headB (size + 8 + bs.length) (ct + 1)) m8.sl (by omega) (by rw [headB_len]; omega) HZ.out.2.2.1 (by rw [HZ.out.2.2.2]; simp)
          have sm8 := HZ.out.2.1.trans (HZ.out.1.same m8.turns)
          refine hK _ _ (Till.mk' S8 trivial) ?_
          clear hK K
          try simp only [List.setIfInBounds_toArray, List.set_cons_succ, List.set_cons_zero]
          refine reg_one 19 1 #[true, true, true, true, true, true, true, true, true, true, true, true, true, true, true, true, true, true, true, true, false] (by kernel_rfl) rfl (by rfl) (by kernel_rfl) (fun K hK => ?_)
          go_simp
          refine W8.mono ?_
          rintro e q3 ⟨rfl, tw9, sm9⟩
          have S9 : (q3.cell? ⟨gl, 0, none⟩ = some (.pointer (some ⟨xg, 0, none⟩)) ∧ q3.cell? ⟨gl, 1, none⟩ = some (.int .i64 size)) ∧ q3.cell? ⟨gl, 2, none⟩ = some (.int .i64 ct) := ⟨⟨(sm9.cell (x := gl) (by simp)).trans S8.1.1, (sm9.cell (x := gl) (by simp)).trans S8.1.2⟩, (sm9.cell (x := gl) (by simp)).trans S8.2⟩
          refine hK _ _ (Till.mk' S9 trivial) ?_
          clear hK K
          try simp only [List.setIfInBounds_toArray, List.set_cons_succ, List.set_cons_zero]
          refine reg_take 20 12 0 #[true, true, true, true, true, true, true, true, true, true, true, true, true, true, true, true, true, true, true, true, true] (by rfl) (v := ?_) rfl rfl (by kernel_rfl) (by kernel_rfl) (by kernel_rfl) (by kernel_rfl) (fun _ _ _ h => h) (by rfl) ?_ (Till.mk' S9 trivial) ?_
          rotate_left
          · rintro W ⟨⟨hS1, hS2⟩, hS3⟩; go_simp; all_goals with_reducible rfl
          try simp only [List.setIfInBounds_toArray, List.set_cons_succ, List.set_cons_zero]
          refine reg_done (by kernel_rfl) ?_ _
          have sm10 := sm8.trans sm9
          have hal := wrote_alive s2 0 (pageOf (headB (size + 8 + bs.length) (ct + 1))) HZ.out.2.2.1
          have hk2 := HP.out.2.2.2.1 s2 size ct bs HPG.out
          have hk3 := HP.out.2.2.2.2 s2 size ct bs HPG.out
          obtain ⟨s3, hs3⟩ : ∃ s3, s3 = s2.wrote 0 (pageOf (headB (size + 8 + bs.length) (ct + 1))) := ⟨_, rfl⟩
          rw [← hs3] at hk2 hk3 hal tw9
          obtain ⟨cd, hcd⟩ : ∃ cd, cd = s2.code := ⟨_, rfl⟩
          have hc2 := code_two s2
          rw [← hcd] at hk2 hk3 hal hc2
          rw [← hcd]
          have bQ := sm10.blk (x := gl) (by simp) H0.out.2.1
          rcases hc2 with rfl | rfl
          · have SY2 := TRSync tw9
            have hk3 := hk3 rfl
            have h2 := syncCode_two s3
            obtain ⟨cs, hcs⟩ : ∃ cs, cs = s3.syncCode := ⟨_, rfl⟩
            rw [← hcs] at SY2 hk3 h2
            have c0 := bQ.cell 0
            simp only [XLG, List.getElem?_cons_zero] at c0
            have HK3 := Lib.hid hk3
            have HS10 := Lib.hid sm10
            replace SY2 := Lib.hid SY2
            clear hk2 hk3 hs3 hcd hcs tw9 sm9 sm8 sm10 bQ m7 m8 S7 S8 S9 W8 hal
            go_wp2_with fail
            refine SY2.out.mono ?_
            rintro e q4 ⟨rfl, tw5, sm5⟩
            have sm6 := HS10.out.trans sm5
            have b6 := sm6.blk (x := gl) (by simp) H0.out.2.1
            rcases h2 with rfl | rfl
            · have c1 := b6.cell 1
              have c2 := b6.cell 2
              have f1 := b6.free 1
              have f2 := b6.free 2
              simp only [XLG, List.getElem?_cons_zero, List.getElem?_cons_succ] at c1 c2
              have B1 := b6.set 1 (.int .i64 ((size : Int) + 8 + (bs.length : Int)))
              have B2 := B1.set 2 (.int .i64 ((ct : Int) + 1))
              simp only [XLG, List.set_cons_succ, List.set_cons_zero] at B2
              have T2 := ((Turns.refl [gl] q4).setCell (p := ⟨gl, 1, none⟩) (.inl (by simp)) (.int .i64 ((size : Int) + 8 + (bs.length : Int)))).setCell (p := ⟨gl, 2, none⟩) (.inl (by simp)) (.int .i64 ((ct : Int) + 1))
              have hgX : Same X q4 ((q4.setCell ⟨gl, 1, none⟩ (.int .i64 ((size : Int) + 8 + (bs.length : Int)))).setCell ⟨gl, 2, none⟩ (.int .i64 ((ct : Int) + 1))) := fun z hz => T2.block z (by obtain ⟨D, xd, B, Bx, _, _, h⟩ := tw5; exact (h.kept z (List.mem_cons_of_mem _ hz)).2.2.2) (by intro hm; simp at hm; subst hm; exact H0.out.2.2.2 hz)
              have HF := Lib.hid (And.intro (tw5.turn T2 (by simp)) (And.intro B2 ((sm6.sub (fun z hz => List.mem_cons_of_mem _ hz)).trans hgX)))
              clear B1 B2 T2 hgX tw5 sm5 sm6 b6 SY2
              go_wp2_with fail
              go_ret
              refine ⟨by rw [HK3.out]; rfl, by rw [HK3.out]; exact HF.out.1, HF.out.2.2, ?_⟩
              rw [HK3.out, if_pos rfl]
              have := HF.out.2.1
              rw [show (size : Int) + 8 + (bs.length : Int) = ((size + 8 + bs.length : Nat) : Int) by omega, show (ct : Int) + 1 = ((ct + 1 : Nat) : Int) by omega] at this
              exact this
            · have HF := Lib.hid (And.intro tw5 (And.intro b6 (sm6.sub (fun z hz => List.mem_cons_of_mem _ hz))))
              clear tw5 sm5 sm6 b6 SY2
              go_wp2_with fail
              go_ret
              refine ⟨by rw [HK3.out]; rfl, by rw [HK3.out]; exact HF.out.1, HF.out.2.2, ?_⟩
              rw [HK3.out, if_neg (show ¬ ((15 : Int) = 0) by decide)]
              exact HF.out.2.1
          · have hk2 := hk2 (by decide)
            have HF := Lib.hid (And.intro tw9 (And.intro bQ (And.intro (sm10.sub (fun z hz => List.mem_cons_of_mem _ hz)) hk2)))
            clear hk2 hk3 hs3 hcd tw9 sm9 sm8 sm10 bQ m7 m8 S7 S8 S9 W8 hal
            go_wp2_with fail
            go_ret
            refine ⟨by rw [HF.out.2.2.2]; rfl, by rw [HF.out.2.2.2]; exact HF.out.1, HF.out.2.2.1, ?_⟩
            rw [HF.out.2.2.2, if_neg (show ¬ ((15 : Int) = 0) by decide)]
            exact HF.out.2.1
        · have hap := HP.out.2.2.1 _ 15 size ct bs HPG.out (by decide)
          have HF := Lib.hid (And.intro hap (And.intro tw3 (And.intro (smz.sub (fun z hz => List.mem_cons_of_mem _ hz)) bZ)))
          clear hap tw2 sm2 smz tw3 bZ SY
          go_wp2_with fail
          go_ret
          refine ⟨by rw [HF.out.1]; rfl, by rw [HF.out.1]; exact HF.out.2.1, HF.out.2.2.1, ?_⟩
          rw [HF.out.1, if_neg (show ¬ ((15 : Int) = 0) by decide)]
          exact HF.out.2.2.2
end Go.Proofs.Ytdhbaepmbgoobaa
namespace Go.Proofs.Ytdhbaepmbgoobaa
open Go.RowKit
set_option linter.unusedVariables false
set_option linter.unusedSimpArgs false
set_option linter.unnecessarySimpa false

set_option maxRecDepth 100000 in
set_option maxHeartbeats 8000000 in
theorem RAppend_no {w0 w : World} {g xg p : Nat} {st sx : DS} {X : List Nat} (h : Two w0 w g xg p st sx X) (gl size : Nat) (ct : Int) (hb : Blk w gl (XLG xg size ct) 79)
    (A : Option Addr) (c n : Nat) (hlen : n ≤ 65536) (hs : size ≤ (p - 1) * 64) (hno : (p - 1) * 64 < size + 8 + n ∨ sx.dead = true) :
    Calls Try.prog 28 #[.pointer (some ⟨gl, 0, none⟩), .slice A n c] w fun e w' => e = .returned (.int .i64 (if (p - 1) * 64 < size + 8 + n then 14 else 15)) ∧ Turns [] w w' := by
  have hp := h.pages
  obtain ⟨xn, xcn, x0, x4⟩ := h.xcells
  have c0 := hb.cell 0
  have c1 := hb.cell 1
  simp only [XLG, List.getElem?_cons_zero, List.getElem?_cons_succ] at c0 c1
  have hpb : (p : Int) ≤ 4096 ∧ 2 ≤ (p : Int) := by omega
  have h65 : (n : Int) ≤ 65536 := by omega
  have hsz : (size : Int) ≤ ((p : Int) - 1) * 64 := by omega
  have S0 : (w.drew.cell? ⟨gl, 0, none⟩ = some (.pointer (some ⟨xg, 0, none⟩)) ∧ w.drew.cell? ⟨gl, 1, none⟩ = some (.int .i64 size)) ∧ w.drew.cell? ⟨xg, 0, none⟩ = some (.slice (some ⟨xn, 0, none⟩) p xcn) := ⟨⟨c0, c1⟩, x0⟩
  have hw1 : IntKind.i64.wrap ((p : Int) - 1) = (p : Int) - 1 := by rw [IntKind.wrap_i64]; omega
  have hw2 : IntKind.i64.wrap (((p : Int) - 1) * 64) = ((p : Int) - 1) * 64 := by rw [IntKind.wrap_i64]; omega
  have hw3 : IntKind.i64.wrap (((p : Int) - 1) * 64 - (size : Int)) = ((p : Int) - 1) * 64 - (size : Int) := by rw [IntKind.wrap_i64]; omega
  have x4d : w.drew.cell? ⟨xg, 4, none⟩ = some (.bool sx.dead) := x4
  clear h hb
  by_cases hf : (p - 1) * 64 < size + 8 + n
  · rw [if_pos hf]
    have hfr : ((p : Int) - 1) * 64 - (size : Int) < (n : Int) + 8 := by omega
    clear hno hf x4 x4d
    go_enter Try.func28, Try.ntmps28
    go_upto_region 3 with fail
    refine reg_begin (fun W => (W.cell? ⟨gl, 0, none⟩ = some (.pointer (some ⟨xg, 0, none⟩)) ∧ W.cell? ⟨gl, 1, none⟩ = some (.int .i64 size)) ∧ W.cell? ⟨xg, 0, none⟩ = some (.slice (some ⟨xn, 0, none⟩) p xcn)) (fun _ => True) 16 16 #[false, false, false, false, false, false, false, false, false, false, false, false, false, false, false, false] (by kernel_rfl) (by kernel_rfl) (by kernel_rfl) ?_
    refine reg_take 0 16 15 #[true, false, false, false, false, false, false, false, false, false, false, false, false, false, false, false] (by rfl) (v := ?_) rfl rfl (by kernel_rfl) (by kernel_rfl) (by kernel_rfl) (by kernel_rfl) (fun _ _ _ h => h) (by rfl) ?_ (Till.mk' S0 trivial) ?_
    rotate_left
    · rintro W ⟨⟨hS1, hS2⟩, hS3⟩; go_simp; all_goals with_reducible rfl
    try simp only [List.setIfInBounds_toArray, List.set_cons_succ, List.set_cons_zero]
    refine reg_take 1 17 14 #[true, true, false, false, false, false, false, false, false, false, false, false, false, false, false, false] (by rfl) (v := ?_) rfl rfl (by kernel_rfl) (by kernel_rfl) (by kernel_rfl) (by kernel_rfl) (fun _ _ _ h => h) (by rfl) ?_ (Till.mk' S0 trivial) ?_
    rotate_left
    · rintro W ⟨⟨hS1, hS2⟩, hS3⟩; go_simp; all_goals with_reducible rfl
    try simp only [List.setIfInBounds_toArray, List.set_cons_succ, List.set_cons_zero]
    refine reg_take 2 18 13 #[true, true, true, false, false, false, false, false, false, false, false, false, false, false, false, false] (by rfl) (v := ?_) rfl rfl (by kernel_rfl) (by kernel_rfl) (by kernel_rfl) (by kernel_rfl) (fun _ _ _ h => h) (by rfl) ?_ (Till.mk' S0 trivial) ?_
    rotate_left
    · rintro W ⟨⟨hS1, hS2⟩, hS3⟩; go_simp; all_goals with_reducible rfl
    try simp only [List.setIfInBounds_toArray, List.set_cons_succ, List.set_cons_zero]
    refine reg_take 3 19 12 #[true, true, true, true, false, false, false, false, false, false, false, false, false, false, false, false] (by rfl) (v := ?_) rfl rfl (by kernel_rfl) (by kernel_rfl) (by kernel_rfl) (by kernel_rfl) (fun _ _ _ h => h) (by rfl) ?_ (Till.mk' S0 trivial) ?_
    rotate_left
    · rintro W ⟨⟨hS1, hS2⟩, hS3⟩; go_simp; all_goals with_reducible rfl
    try simp only [List.setIfInBounds_toArray, List.set_cons_succ, List.set_cons_zero]
    refine reg_take 4 20 11 #[true, true, true, true, true, false, false, false, false, false, false, false, false, false, false, false] (by rfl) (v := ?_) rfl rfl (by kernel_rfl) (by kernel_rfl) (by kernel_rfl) (by kernel_rfl) (fun _ _ _ h => h) (by rfl) ?_ (Till.mk' S0 trivial) ?_
    rotate_left
    · rintro W ⟨⟨hS1, hS2⟩, hS3⟩; go_simp; all_goals with_reducible rfl
    try simp only [List.setIfInBounds_toArray, List.set_cons_succ, List.set_cons_zero]
    refine reg_take 5 21 10 #[true, true, true, true, true, true, false, false, false, false, false, false, false, false, false, false] (by rfl) (v := ?_) rfl rfl (by kernel_rfl) (by kernel_rfl) (by kernel_rfl) (by kernel_rfl) (fun _ _ _ h => h) (by rfl) ?_ (Till.mk' S0 trivial) ?_
    rotate_left
    · rintro W ⟨⟨hS1, hS2⟩, hS3⟩; go_simp; all_goals with_reducible rfl
    try simp only [List.setIfInBounds_toArray, List.set_cons_succ, List.set_cons_zero]
    refine reg_take 6 22 9 #[true, true, true, true, true, true, true, false, false, false, false, false, false, false, false, false] (by rfl) (v := ?_) rfl rfl (by kernel_rfl) (by kernel_rfl) (by kernel_rfl) (by kernel_rfl) (fun _ _ _ h => h) (by rfl) ?_ (Till.mk' S0 trivial) ?_
    rotate_left
    · rintro W ⟨⟨hS1, hS2⟩, hS3⟩; go_simp; all_goals with_reducible rfl
    try simp only [List.setIfInBounds_toArray, List.set_cons_succ, List.set_cons_zero]
    refine reg_take 7 23 8 #[true, true, true, true, true, true, true, true, false, false, false, false, false, false, false, false] (by rfl) (v := ?_) rfl rfl (by kernel_rfl) (by kernel_rfl) (by kernel_rfl) (by kernel_rfl) (fun _ _ _ h => h) (by rfl) ?_ (Till.mk' S0 trivial) ?_
    rotate_left
    · rintro W ⟨⟨hS1, hS2⟩, hS3⟩; go_simp; all_goals with_reducible rfl
    try simp only [List.setIfInBounds_toArray, List.set_cons_succ, List.set_cons_zero]
    refine reg_take 8 24 7 #[true, true, true, true, true, true, true, true, true, false, false, false, false, false, false, false] (by rfl) (v := ?_) rfl rfl (by kernel_rfl) (by kernel_rfl) (by kernel_rfl) (by kernel_rfl) (fun _ _ _ h => h) (by rfl) ?_ (Till.mk' S0 trivial) ?_
    rotate_left
    · rintro W ⟨⟨hS1, hS2⟩, hS3⟩; go_simp; all_goals with_reducible rfl
    try simp only [List.setIfInBounds_toArray, List.set_cons_succ, List.set_cons_zero]
    refine reg_take 9 25 6 #[true, true, true, true, true, true, true, true, true, true, false, false, false, false, false, false] (by rfl) (v := ?_) rfl rfl (by kernel_rfl) (by kernel_rfl) (by kernel_rfl) (by kernel_rfl) (fun _ _ _ h => h) (by rfl) ?_ (Till.mk' S0 trivial) ?_
    rotate_left
    · rintro W ⟨⟨hS1, hS2⟩, hS3⟩; go_simp; all_goals with_reducible rfl
    try simp only [List.setIfInBounds_toArray, List.set_cons_succ, List.set_cons_zero]
    refine reg_take 10 26 5 #[true, true, true, true, true, true, true, true, true, true, true, false, false, false, false, false] (by rfl) (v := ?_) rfl rfl (by kernel_rfl) (by kernel_rfl) (by kernel_rfl) (by kernel_rfl) (fun _ _ _ h => h) (by rfl) ?_ (Till.mk' S0 trivial) ?_
    rotate_left
    · rintro W ⟨⟨hS1, hS2⟩, hS3⟩; go_simp; all_goals with_reducible rfl
    try simp only [List.setIfInBounds_toArray, List.set_cons_succ, List.set_cons_zero]
    refine reg_take 11 27 4 #[true, true, true, true, true, true, true, true, true, true, true, true, false, false, false, false] (by rfl) (v := ?_) rfl rfl (by kernel_rfl) (by kernel_rfl) (by kernel_rfl) (by kernel_rfl) (fun _ _ _ h => h) (by rfl) ?_ (Till.mk' S0 trivial) ?_
    rotate_left
    · rintro W ⟨⟨hS1, hS2⟩, hS3⟩; go_simp; all_goals with_reducible rfl
    try simp only [List.setIfInBounds_toArray, List.set_cons_succ, List.set_cons_zero]
    refine reg_take 12 28 3 #[true, true, true, true, true, true, true, true, true, true, true, true, true, false, false, false] (by rfl) (v := ?_) rfl rfl (by kernel_rfl) (by kernel_rfl) (by kernel_rfl) (by kernel_rfl) (fun _ _ _ h => h) (by rfl) ?_ (Till.mk' S0 trivial) ?_
    rotate_left
    · rintro W ⟨⟨hS1, hS2⟩, hS3⟩; go_simp; all_goals with_reducible rfl
    try simp only [List.setIfInBounds_toArray, List.set_cons_succ, List.set_cons_zero]
    refine reg_take 13 29 2 #[true, true, true, true, true, true, true, true, true, true, true, true, true, true, false, false] (by rfl) (v := ?_) rfl rfl (by kernel_rfl) (by kernel_rfl) (by kernel_rfl) (by kernel_rfl) (fun _ _ _ h => h) (by rfl) ?_ (Till.mk' S0 trivial) ?_
    rotate_left
    · rintro W ⟨⟨hS1, hS2⟩, hS3⟩; go_simp; all_goals with_reducible rfl
    try simp only [List.setIfInBounds_toArray, List.set_cons_succ, List.set_cons_zero]
    refine reg_take 14 30 1 #[true, true, true, true, true, true, true, true, true, true, true, true, true, true, true, false] (by rfl) (v := ?_) rfl rfl (by kernel_rfl) (by kernel_rfl) (by kernel_rfl) (by kernel_rfl) (fun _ _ _ h => h) (by rfl) ?_ (Till.mk' S0 trivial) ?_
    rotate_left
    · rintro W ⟨⟨hS1, hS2⟩, hS3⟩; go_simp; all_goals with_reducible rfl
    try simp only [List.setIfInBounds_toArray, List.set_cons_succ, List.set_cons_zero]
    refine reg_take 15 5 0 #[true, true, true, true, true, true, true, true, true, true, true, true, true, true, true, true] (by rfl) (v := ?_) rfl rfl (by kernel_rfl) (by kernel_rfl) (by kernel_rfl) (by kernel_rfl) (fun _ _ _ h => h) (by rfl) ?_ (Till.mk' S0 trivial) ?_
    rotate_left
    · rintro W ⟨⟨hS1, hS2⟩, hS3⟩; go_simp; all_goals with_reducible rfl
    try simp only [List.setIfInBounds_toArray, List.set_cons_succ, List.set_cons_zero]
    refine reg_done (by kernel_rfl) ?_ _
    clear hw1 hw2 hw3 S0
    go_wp2_with fail
    go_ret
    exact ⟨rfl, (Turns.refl _ _).drew⟩
  · rw [if_neg hf]
    have hfr : (n : Int) + 8 ≤ ((p : Int) - 1) * 64 - (size : Int) := by omega
    have hd : sx.dead = true := by rcases hno with h | h; exact absurd h hf; exact h
    rw [hd] at x4d
    clear hno hf x4 hd
    go_enter Try.func28, Try.ntmps28
    go_upto_region 3 with fail
    refine reg_begin (fun W => (W.cell? ⟨gl, 0, none⟩ = some (.pointer (some ⟨xg, 0, none⟩)) ∧ W.cell? ⟨gl, 1, none⟩ = some (.int .i64 size)) ∧ W.cell? ⟨xg, 0, none⟩ = some (.slice (some ⟨xn, 0, none⟩) p xcn)) (fun _ => True) 16 16 #[false, false, false, false, false, false, false, false, false, false, false, false, false, false, false, false] (by kernel_rfl) (by kernel_rfl) (by kernel_rfl) ?_
    refine reg_take 0 16 15 #[true, false, false, false, false, false, false, false, false, false, false, false, false, false, false, false] (by rfl) (v := ?_) rfl rfl (by kernel_rfl) (by kernel_rfl) (by kernel_rfl) (by kernel_rfl) (fun _ _ _ h => h) (by rfl) ?_ (Till.mk' S0 trivial) ?_
    rotate_left
    · rintro W ⟨⟨hS1, hS2⟩, hS3⟩; go_simp; all_goals with_reducible rfl
    try simp only [List.setIfInBounds_toArray, List.set_cons_succ, List.set_cons_zero]
    refine reg_take 1 17 14 #[true, true, false, false, false, false, false, false, false, false, false, false, false, false, false, false] (by rfl) (v := ?_) rfl rfl (by kernel_rfl) (by kernel_rfl) (by kernel_rfl) (by kernel_rfl) (fun _ _ _ h => h) (by rfl) ?_ (Till.mk' S0 trivial) ?_
    rotate_left
    · rintro W ⟨⟨hS1, hS2⟩, hS3⟩; go_simp; all_goals with_reducible rfl
    try simp only [List.setIfInBounds_toArray, List.set_cons_succ, List.set_cons_zero]
    refine reg_take 2 18 13 #[true, true, true, false, false, false, false, false, false, false, false, false, false, false, false, false] (by rfl) (v := ?_) rfl rfl (by kernel_rfl) (by kernel_rfl) (by kernel_rfl) (by kernel_rfl) (fun _ _ _ h => h) (by rfl) ?_ (Till.mk' S0 trivial) ?_
    rotate_left
    · rintro W ⟨⟨hS1, hS2⟩, hS3⟩; go_simp; all_goals with_reducible rfl
    try simp only [List.setIfInBounds_toArray, List.set_cons_succ, List.set_cons_zero]
    refine reg_take 3 19 12 #[true, true, true, true, false, false, false, false, false, false, false, false, false, false, false, false] (by rfl) (v := ?_) rfl rfl (by kernel_rfl) (by kernel_rfl) (by kernel_rfl) (by kernel_rfl) (fun _ _ _ h => h) (by rfl) ?_ (Till.mk' S0 trivial) ?_
    rotate_left
    · rintro W ⟨⟨hS1, hS2⟩, hS3⟩; go_simp; all_goals with_reducible rfl
    try simp only [List.setIfInBounds_toArray, List.set_cons_succ, List.set_cons_zero]
    refine reg_take 4 20 11 #[true, true, true, true, true, false, false, false, false, false, false, false, false, false, false, false] (by rfl) (v := ?_) rfl rfl (by kernel_rfl) (by kernel_rfl) (by kernel_rfl) (by kernel_rfl) (fun _ _ _ h => h) (by rfl) ?_ (Till.mk' S0 trivial) ?_
    rotate_left
    · rintro W ⟨⟨hS1, hS2⟩, hS3⟩; go_simp; all_goals with_reducible rfl
    try simp only [List.setIfInBounds_toArray, List.set_cons_succ, List.set_cons_zero]
    refine reg_take 5 21 10 #[true, true, true, true, true, true, false, false, false, false, false, false, false, false, false, false] (by rfl) (v := ?_) rfl rfl (by kernel_rfl) (by kernel_rfl) (by kernel_rfl) (by kernel_rfl) (fun _ _ _ h => h) (by rfl) ?_ (Till.mk' S0 trivial) ?_
    rotate_left
    · rintro W ⟨⟨hS1, hS2⟩, hS3⟩; go_simp; all_goals with_reducible rfl
    try simp only [List.setIfInBounds_toArray, List.set_cons_succ, List.set_cons_zero]
    refine reg_take 6 22 9 #[true, true, true, true, true, true, true, false, false, false, false, false, false, false, false, false] (by rfl) (v := ?_) rfl rfl (by kernel_rfl) (by kernel_rfl) (by kernel_rfl) (by kernel_rfl) (fun _ _ _ h => h) (by rfl) ?_ (Till.mk' S0 trivial) ?_
    rotate_left
    · rintro W ⟨⟨hS1, hS2⟩, hS3⟩; go_simp; all_goals with_reducible rfl
    try simp only [List.setIfInBounds_toArray, List.set_cons_succ, List.set_cons_zero]
    refine reg_take 7 23 8 #[true, true, true, true, true, true, true, true, false, false, false, false, false, false, false, false] (by rfl) (v := ?_) rfl rfl (by kernel_rfl) (by kernel_rfl) (by kernel_rfl) (by kernel_rfl) (fun _ _ _ h => h) (by rfl) ?_ (Till.mk' S0 trivial) ?_
    rotate_left
    · rintro W ⟨⟨hS1, hS2⟩, hS3⟩; go_simp; all_goals with_reducible rfl
    try simp only [List.setIfInBounds_toArray, List.set_cons_succ, List.set_cons_zero]
    refine reg_take 8 24 7 #[true, true, true, true, true, true, true, true, true, false, false, false, false, false, false, false] (by rfl) (v := ?_) rfl rfl (by kernel_rfl) (by kernel_rfl) (by kernel_rfl) (by kernel_rfl) (fun _ _ _ h => h) (by rfl) ?_ (Till.mk' S0 trivial) ?_
    rotate_left
    · rintro W ⟨⟨hS1, hS2⟩, hS3⟩; go_simp; all_goals with_reducible rfl
    try simp only [List.setIfInBounds_toArray, List.set_cons_succ, List.set_cons_zero]
    refine reg_take 9 25 6 #[true, true, true, true, true, true, true, true, true, true, false, false, false, false, false, false] (by rfl) (v := ?_) rfl rfl (by kernel_rfl) (by kernel_rfl) (by kernel_rfl) (by kernel_rfl) (fun _ _ _ h => h) (by rfl) ?_ (Till.mk' S0 trivial) ?_
    rotate_left
    · rintro W ⟨⟨hS1, hS2⟩, hS3⟩; go_simp; all_goals with_reducible rfl
    try simp only [List.setIfInBounds_toArray, List.set_cons_succ, List.set_cons_zero]
    refine reg_take 10 26 5 #[true, true, true, true, true, true, true, true, true, true, true, false, false, false, false, false] (by rfl) (v := ?_) rfl rfl (by kernel_rfl) (by kernel_rfl) (by kernel_rfl) (by kernel_rfl) (fun _ _ _ h => h) (by rfl) ?_ (Till.mk' S0 trivial) ?_
    rotate_left
    · rintro W ⟨⟨hS1, hS2⟩, hS3⟩; go_simp; all_goals with_reducible rfl
    try simp only [List.setIfInBounds_toArray, List.set_cons_succ, List.set_cons_zero]
    refine reg_take 11 27 4 #[true, true, true, true, true, true, true, true, true, true, true, true, false, false, false, false] (by rfl) (v := ?_) rfl rfl (by kernel_rfl) (by kernel_rfl) (by kernel_rfl) (by kernel_rfl) (fun _ _ _ h => h) (by rfl) ?_ (Till.mk' S0 trivial) ?_
    rotate_left
    · rintro W ⟨⟨hS1, hS2⟩, hS3⟩; go_simp; all_goals with_reducible rfl
    try simp only [List.setIfInBounds_toArray, List.set_cons_succ, List.set_cons_zero]
    refine reg_take 12 28 3 #[true, true, true, true, true, true, true, true, true, true, true, true, true, false, false, false] (by rfl) (v := ?_) rfl rfl (by kernel_rfl) (by kernel_rfl) (by kernel_rfl) (by kernel_rfl) (fun _ _ _ h => h) (by rfl) ?_ (Till.mk' S0 trivial) ?_
    rotate_left
    · rintro W ⟨⟨hS1, hS2⟩, hS3⟩; go_simp; all_goals with_reducible rfl
    try simp only [List.setIfInBounds_toArray, List.set_cons_succ, List.set_cons_zero]
    refine reg_take 13 29 2 #[true, true, true, true, true, true, true, true, true, true, true, true, true, true, false, false] (by rfl) (v := ?_) rfl rfl (by kernel_rfl) (by kernel_rfl) (by kernel_rfl) (by kernel_rfl) (fun _ _ _ h => h) (by rfl) ?_ (Till.mk' S0 trivial) ?_
    rotate_left
    · rintro W ⟨⟨hS1, hS2⟩, hS3⟩; go_simp; all_goals with_reducible rfl
    try simp only [List.setIfInBounds_toArray, List.set_cons_succ, List.set_cons_zero]
    refine reg_take 14 30 1 #[true, true, true, true, true, true, true, true, true, true, true, true, true, true, true, false] (by rfl) (v := ?_) rfl rfl (by kernel_rfl) (by kernel_rfl) (by kernel_rfl) (by kernel_rfl) (fun _ _ _ h => h) (by rfl) ?_ (Till.mk' S0 trivial) ?_
    rotate_left
    · rintro W ⟨⟨hS1, hS2⟩, hS3⟩; go_simp; all_goals with_reducible rfl
    try simp only [List.setIfInBounds_toArray, List.set_cons_succ, List.set_cons_zero]
    refine reg_take 15 5 0 #[true, true, true, true, true, true, true, true, true, true, true, true, true, true, true, true] (by rfl) (v := ?_) rfl rfl (by kernel_rfl) (by kernel_rfl) (by kernel_rfl) (by kernel_rfl) (fun _ _ _ h => h) (by rfl) ?_ (Till.mk' S0 trivial) ?_
    rotate_left
    · rintro W ⟨⟨hS1, hS2⟩, hS3⟩; go_simp; all_goals with_reducible rfl
    try simp only [List.setIfInBounds_toArray, List.set_cons_succ, List.set_cons_zero]
    refine reg_done (by kernel_rfl) ?_ _
    clear hw1 hw2 hw3
    have c0d := S0.1.1
    clear S0
    go_wp2_with fail
    go_ret
    exact ⟨rfl, (Turns.refl _ _).drew⟩
set_option maxRecDepth 100000 in
set_option maxHeartbeats 8000000 in
theorem pages_dead {w0 w : World} {B g p : Nat} {st : DS} {X : List Nat} (h : At w0 w B g p st X) (gl at_ : Nat) (ct : Int) (hb : Blk w gl (LG g at_ ct) 86)
    (A : Option Addr) (c n : Nat) (hs : n ≤ c ∧ c ≤ 9223372036854775807) (hd : st.dead = true) (hne : 0 < n) (hroom : at_ + n ≤ (p - 1) * 64) :
    Calls Try.prog 33 #[.pointer (some ⟨gl, 0, none⟩), .slice A n c] w fun e w' => e = .returned (.int .i64 15) ∧ Turns [] w w' := by
  have hp := h.pages
  have LD := Lib.hid (IntLoad_any ⟨gl, 1, none⟩ at_ w (by have := hb.cell 1; simpa [LG] using this))
  have hc : ∀ (z : Int) (s : Int), st.checked p z s = 15 := fun z s => by unfold DS.checked; rw [if_pos hd]
  have c0 := hb.cell 0
  simp only [LG, List.getElem?_cons_zero] at c0
  obtain ⟨k0, hk0⟩ : ∃ k0, k0 = 1 + at_ / 64 := ⟨_, rfl⟩
  have HK := Lib.hid (show 1 + ((at_ : Int) / 64) = k0 by omega)
  have hqb : 0 ≤ (at_ : Int) / 64 ∧ (at_ : Int) / 64 ≤ 10000 := by omega
  have hat : at_ ≤ 300000 := by omega
  obtain ⟨m, hm⟩ : ∃ m, m = min n 64 := ⟨_, rfl⟩
  have hmb : m ≤ n := by omega
  have MM := Lib.hid (show (if 64 < (n : Int) then (64 : Int) else (n : Int)) = m by split <;> omega)
  have hnb : (n : Int) ≤ 300000 := by omega
  have hnI : (0 : Int) < n := by omega
  have RD := Read_no h k0 (by rw [hc]; decide)
  rw [hc] at RD
  have WR := Write_no (h.drew) k0 m A c (by omega) (by rw [hc]; decide)
  rw [hc] at WR
  have RD := Lib.hid RD
  have WR := Lib.hid WR
  clear h hb hd hc hk0 hm
  go_enter Try.func33, Try.ntmps33
  go_wp2_with fail
  refine LD.out.mono ?_
  rintro e ww ⟨rfl, rfl⟩
  by_cases hr : at_ % 64 = 0
  · have hr' : (at_ : Int) % 64 = 0 := by omega
    go_wp2_with fail
    rw [HK.out]
    clear hr hr'
    go_loopw [1, 6] (fun b k wr => b = .slice A n c ∧ k = .int .i64 k0 ∧ w = wr) (fun b _ _ => 1)
    case atStart => exact ⟨rfl, rfl, rfl⟩
    case round =>
      obtain ⟨rfl, rfl, rfl⟩ := hrel
      go_upto_region 11 with fail
      rw [MM.out]
      refine reg_begin (fun W => W.cell? ⟨gl, 0, none⟩ = some (.pointer (some ⟨g, 0, none⟩))) (fun _ => True) 10 10 #[false, false, false, false, false, false, false, false, false, false] (by kernel_rfl) (by kernel_rfl) (by kernel_rfl) ?_
      refine reg_take 0 48 9 #[true, false, false, false, false, false, false, false, false, false] (by rfl) (v := ?_) rfl rfl (by kernel_rfl) (by kernel_rfl) (by kernel_rfl) (by kernel_rfl) (fun _ _ _ h => h) (by rfl) ?_ (Till.mk' c0 trivial) ?_
      rotate_left
      · intro W hS; go_simp; all_goals with_reducible rfl
      try simp only [List.setIfInBounds_toArray, List.set_cons_succ, List.set_cons_zero]
      refine reg_take 1 49 8 #[true, true, false, false, false, false, false, false, false, false] (by rfl) (v := ?_) rfl rfl (by kernel_rfl) (by kernel_rfl) (by kernel_rfl) (by kernel_rfl) (fun _ _ _ h => h) (by rfl) ?_ (Till.mk' c0 trivial) ?_
      rotate_left
      · intro W hS; go_simp; all_goals with_reducible rfl
      try simp only [List.setIfInBounds_toArray, List.set_cons_succ, List.set_cons_zero]
      refine reg_take 2 50 7 #[true, true, true, false, false, false, false, false, false, false] (by rfl) (v := ?_) rfl rfl (by kernel_rfl) (by kernel_rfl) (by kernel_rfl) (by kernel_rfl) (fun _ _ _ h => h) (by rfl) ?_ (Till.mk' c0 trivial) ?_
      rotate_left
      · intro W hS; go_simp; all_goals with_reducible rfl
      try simp only [List.setIfInBounds_toArray, List.set_cons_succ, List.set_cons_zero]
      refine reg_take 3 51 6 #[true, true, true, true, false, false, false, false, false, false] (by rfl) (v := ?_) rfl rfl (by kernel_rfl) (by kernel_rfl) (by kernel_rfl) (by kernel_rfl) (fun _ _ _ h => h) (by rfl) ?_ (Till.mk' c0 trivial) ?_
      rotate_left
      · intro W hS; have c9 : W.cell? ⟨gl, 0, none⟩ = some (.pointer (some ⟨g, 0, none⟩)) := hS; go_simp; all_goals with_reducible rfl
      try simp only [List.setIfInBounds_toArray, List.set_cons_succ, List.set_cons_zero]
      refine reg_take 4 52 5 #[true, true, true, true, true, false, false, false, false, false] (by rfl) (v := ?_) rfl rfl (by kernel_rfl) (by kernel_rfl) (by kernel_rfl) (by kernel_rfl) (fun _ _ _ h => h) (by rfl) ?_ (Till.mk' c0 trivial) ?_
      rotate_left
      · intro W hS; go_simp; all_goals with_reducible rfl
      try simp only [List.setIfInBounds_toArray, List.set_cons_succ, List.set_cons_zero]
      refine reg_take 5 53 4 #[true, true, true, true, true, true, false, false, false, false] (by rfl) (v := ?_) rfl rfl (by kernel_rfl) (by kernel_rfl) (by kernel_rfl) (by kernel_rfl) (fun _ _ _ h => h) (by rfl) ?_ (Till.mk' c0 trivial) ?_
      rotate_left
      · intro W hS; go_simp; all_goals with_reducible rfl
      try simp only [List.setIfInBounds_toArray, List.set_cons_succ, List.set_cons_zero]
      refine reg_take 6 54 3 #[true, true, true, true, true, true, true, false, false, false] (by rfl) (v := ?_) rfl rfl (by kernel_rfl) (by kernel_rfl) (by kernel_rfl) (by kernel_rfl) (fun _ _ _ h => h) (by rfl) ?_ (Till.mk' c0 trivial) ?_
      rotate_left
      · intro W hS; go_simp; all_goals with_reducible rfl
      try simp only [List.setIfInBounds_toArray, List.set_cons_succ, List.set_cons_zero]
      refine reg_take 7 55 2 #[true, true, true, true, true, true, true, true, false, false] (by rfl) (v := ?_) rfl rfl (by kernel_rfl) (by kernel_rfl) (by kernel_rfl) (by kernel_rfl) (fun _ _ _ h => h) (by rfl) ?_ (Till.mk' c0 trivial) ?_
      rotate_left
      · intro W hS; have c9 := run_to A n c m hmb hs.1 W; go_simp; all_goals with_reducible rfl
      try simp only [List.setIfInBounds_toArray, List.set_cons_succ, List.set_cons_zero]
      refine reg_one 8 1 #[true, true, true, true, true, true, true, true, true, false] (by kernel_rfl) rfl (by rfl) (by kernel_rfl) (fun K hK => ?_)
      go_simp
      refine WR.out.mono ?_
      rintro e y1 ⟨rfl, rfl⟩
      refine hK _ _ (Till.mk' c0 trivial) ?_
      clear hK K
      try simp only [List.setIfInBounds_toArray, List.set_cons_succ, List.set_cons_zero]
      refine reg_take 9 10 0 #[true, true, true, true, true, true, true, true, true, true] (by rfl) (v := ?_) rfl rfl (by kernel_rfl) (by kernel_rfl) (by kernel_rfl) (by kernel_rfl) (fun _ _ _ h => h) (by rfl) ?_ (Till.mk' c0 trivial) ?_
      rotate_left
      · intro W hS; go_simp; all_goals with_reducible rfl
      try simp only [List.setIfInBounds_toArray, List.set_cons_succ, List.set_cons_zero]
      refine reg_done (by kernel_rfl) ?_ _
      go_wp2_with fail
      go_ret
      exact ⟨rfl, (Turns.refl _ _).drew⟩
  · have hr' : 0 < (at_ : Int) % 64 := by omega
    clear hr
    go_wp2_with fail
    rw [HK.out]
    refine RD.out.mono ?_
    rintro e ww ⟨rfl, rfl⟩
    go_wp2_with fail
    go_ret
    exact ⟨rfl, Turns.refl _ _⟩
set_option maxRecDepth 100000 in
set_option maxHeartbeats 8000000 in
theorem Append_dead {w0 w : World} {B g p : Nat} {st : DS} {X : List Nat} (h : At w0 w B g p st X) (gl size : Nat) (ct : Int) (hb : Blk w gl (LG g size ct) 86)
    (A : Option Addr) (c : Nat) (bs : List UInt8) (hs : Sl w w.heap.size 1 (.slice A bs.length c) bs.length (bvs bs)) (hd : st.dead = true) (hlen : bs.length ≤ 65536) (hroom : size + 8 + bs.length ≤ (p - 1) * 64) :
    Calls Try.prog 14 #[.pointer (some ⟨gl, 0, none⟩), .slice A bs.length c] w fun e w' => e = .returned (.int .i64 15) ∧ Turns [] w w' := by
  have hp := h.pages
  have LD := Lib.hid (IntLoad_any ⟨gl, 1, none⟩ size w (by have := hb.cell 1; simpa [LG] using this))
  have PG := Lib.hid (Pages_at h)
  have c0 := hb.cell 0
  simp only [LG, List.getElem?_cons_zero] at c0
  have CI := Lib.hid (CInt (bs.length : Int) (Mine.nil (Turns.refl [] w)) (by simp))
  have hpb : (p : Int) ≤ 4096 ∧ 2 ≤ (p : Int) := by omega
  have h65 : (bs.length : Int) ≤ 65536 := by omega
  have hfr : (bs.length : Int) + 8 ≤ ((p : Int) - 1) * 64 - (size : Int) := by omega
  have H0 := Lib.hid (And.intro h (And.intro hb hs))
  have HD := Lib.hid hd
  clear h hb hs hd
  go_enter Try.func14, Try.ntmps14
  go_wp2_with fail
  refine PG.out.mono ?_
  rintro e ww ⟨rfl, rfl⟩
  go_wp2_with fail
  refine LD.out.mono ?_
  rintro e ww ⟨rfl, rfl⟩
  clear PG LD
  go_wp2_with fail
  refine CI.out.mono ?_
  rintro e x1 ⟨v1, rfl, m1, t1⟩
  rw [List.nil_append] at m1
  have hs1 := (t1.slice H0.out.2.2 (Nat.le_refl _) (by simp)).more t1.size
  obtain ⟨A1, c1, rfl⟩ := own_formV m1.own
  have CT := Lib.hid (Cat2_any x1 _ _ _ _ m1.sl hs1 (by rw [le8_length]; omega))
  have T1 := Lib.hid t1
  clear m1 t1 hs1 CI
  go_wp2_with fail
  refine CT.out.mono ?_
  rintro e x2 ⟨v2, rfl, o2, bel2⟩
  have hrl := recBytes_len bs
  rw [show le8 (bs.length : Int) ++ bs = recBytes bs from rfl] at o2
  obtain ⟨y, cy, rfl, hy1, hy2, hy3, hy4, _⟩ := own_cells o2 (by omega)
  have t2 := T1.out.trans (Turns.of_below (L := []) bel2) (by simp)
  unfold maxLen at hy2
  have PGS := Lib.hid (pages_dead (H0.out.1.turn t2 (by simp)) gl size ct (H0.out.2.1.turns t2 (by simp)) (some ⟨y, 0, none⟩) cy (recBytes bs).length ⟨hy1, by omega⟩ HD.out (by omega) (by omega))
  have T2 := Lib.hid t2
  clear o2 bel2 t2 CT hrl hy3 hy4
  go_wp2_with fail
  refine PGS.out.mono ?_
  rintro e x3 ⟨rfl, t3⟩
  have T3 := Lib.hid (T2.out.trans t3 (by simp))
  clear t3 PGS
  go_wp2_with fail
  go_ret
  exact ⟨rfl, T3.out⟩
end Go.Proofs.Ytdhbaepmbgoobaa
