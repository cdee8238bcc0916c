/- Schemas are read: code's Parse. -/
import Derived.Test.YtdllgnccjejhiaaRdT
import Derived.Test.YtdllgnccjejhiaaSChecks
import Derived.Laws.ResultCell
namespace Go.Proofs.Ytdllgnccjejhiaa
open Go.RowKit
set_option linter.unusedVariables false
set_option maxRecDepth 10000
set_option linter.unusedSimpArgs false
set_option linter.unnecessarySimpa false

/-- What a reading hands back: a schema and an error. -/
def PRes (w : World) (r : Sch × Int) (e : Ending) (w' : World) : Prop :=
  ∃ A n c, e = .returned (.tuple #[.agg #[.string r.1.name, .slice A n c, .int .i64 r.1.key, .bool r.1.only], .int .i64 r.2]) ∧ Sl w' w'.heap.size 3 (.slice A n c) n (colCells r.1.cols) ∧ Turns [] w w'
theorem results_two {P : Program} {fn : Func} {p u : Tmp} {ty : TypeId} (h : fn.results = #[.cell p ty, .tmp u]) (tmps : Array Value) (w : World) (g : Nat) (t : TypeId) (cs : List Value) (d : TypeDesc) (x : Value)
    (hp : tmps.getD p undef = .pointer (some ⟨g, 0, none⟩)) (hx : tmps.getD u undef = x) (hg : Blk w g cs t)
    (hu : P.underlying ty = some d) (hd : (match d with | .struct _ | .array _ _ => true | _ => false) = true) (hi : (P.info? ty).map (·.size) = some cs.toArray.size) :
    (results fn tmps).run P w = .ok (.tuple #[.agg cs.toArray, x]) w := by
  rw [results_cell_tmp h tmps P w, hp, hx]
  simp [asAddr, run_loadVar_row w g t ty cs.toArray (0, 0) d hg hu hd hi]
theorem PRes_zero {w w' : World} {res : Sch × Int} {e : Int} (h : res = (noSch, e)) (t : Turns [] w w') : PRes w res (.returned (.tuple #[.agg #[.string ⟨#[]⟩, .slice none 0 0, .int .i64 0, .bool false], .int .i64 e])) w' := by
  subst h
  exact ⟨none, 0, 0, rfl, Sl.nil, t⟩
theorem PRes_full {w w' : World} {res : Sch × Int} {S : Sch} {A : Option Addr} {n c : Nat} (h : res = (S, 0)) (s : Sl w' w'.heap.size 3 (.slice A n c) n (colCells S.cols)) (t : Turns [] w w') :
    PRes w res (.returned (.tuple #[.agg #[.string S.name, .slice A n c, .int .i64 S.key, .bool S.only], .int .i64 0])) w' := by
  subst h
  exact ⟨A, n, c, rfl, s, t⟩
theorem headN_le (s : RS) : s.headN.1 ≤ 6 := by
  unfold RS.headN
  have := readByte_bd s.readText.2
  split
  · simp
  · simp; omega
theorem colsN_len (s : RS) : ∀ n, (s.cols n).1.length = n
  | 0 => rfl
  | n + 1 => by rw [RS.cols]; simp [colsN_len s n]

theorem readText_len (s : RS) : s.readText.1.length ≤ 65535 := by
  obtain ⟨m, h1, h2⟩ := number2_lt s
  unfold RS.readText
  rw [h1]
  generalize (s.number 2).2 = r
  unfold RS.take
  split
  · rw [List.length_take]; omega
  · simp
theorem colsN_names (s : RS) : ∀ (n : Nat), ∀ c ∈ (s.cols n).1, c.name.size ≤ 9223372036854775807
  | 0, c, hc => by simp [RS.cols] at hc
  | n + 1, c, hc => by
    rw [RS.cols] at hc
    simp only [List.mem_append, List.mem_singleton] at hc
    rcases hc with hc | rfl
    · exact colsN_names s n c hc
    · have := readText_len (s.cols n).2
      show (strOf (s.cols n).2.readText.1).size ≤ _
      rw [strOf_size]; omega

set_option maxRecDepth 100000 in
set_option maxHeartbeats 8000000 in
theorem Parse_any (v : Value) (bs : List UInt8) (w : World) (h : Sl w w.heap.size 1 v bs.length (bvs bs)) (hm : bs.length ≤ 1000000) :
    Calls Try.prog 23 #[v] w (PRes w (parseRes bs)) := by
  obtain ⟨res, hres⟩ : ∃ r, r = parseRes bs := ⟨_, rfl⟩
  rw [← hres]
  obtain ⟨s0, hs0⟩ : ∃ s0, s0 = RS.mk bs 0 := ⟨_, rfl⟩
  have hfin := Lib.hid (show res = s0.schema by rw [hres, hs0]; rfl)
  clear hres
  obtain ⟨X0, hX0⟩ : ∃ X0, X0 = w.alloc (.cells #[.string ⟨#[]⟩, .slice none 0 0, .int .i64 0, .bool false] 30) := ⟨_, rfl⟩
  have v2 := Blk.new w [.string ⟨#[]⟩, .slice none 0 0, .int .i64 0, .bool false] 30
  have t0 := (Turns.refl [] w).alloc (.cells #[.string ⟨#[]⟩, .slice none 0 0, .int .i64 0, .bool false] 30)
  rw [← hX0] at t0
  rw [show w.alloc (.cells [.string ⟨#[]⟩, .slice none 0 0, .int .i64 0, .bool false].toArray 30) = X0 from hX0.symm] at v2
  have hz0 : X0.heap.size = w.heap.size + 1 := by rw [hX0]; simp
  obtain ⟨p2, hp2⟩ : ∃ p2, p2 = w.heap.size := ⟨_, rfl⟩
  rw [← hp2] at v2
  have NW := Lib.hid (New_any v bs X0 (t0.slice h (Nat.le_refl _) (by simp) |>.more t0.size) (by omega))
  have HX0 := Lib.hid hX0
  have HP2 := Lib.hid hp2
  have z30 := zero30
  clear hX0 h hp2
  go_enter Try.func23, Try.ntmps23
  go_wp2_with fail
  rw [← HX0.out]
  refine NW.out.mono ?_
  rintro e x1 ⟨g, rfl, hg, R0, bel⟩
  rw [← hs0] at R0
  have hp2 := HP2.out
  have tt := Turns.of_below (L := []) bel
  have v2 := v2.turns tt (by simp)
  have t0 := t0.trans tt (by simp)
  have hgp : p2 ≠ g := by omega
  rw [← HP2.out]
  have H1 := Lib.hid (And.intro v2 t0)
  clear tt bel NW v2 t0 hp2
  go_wp2_with fail
  refine (RText_read g g s0 x1 R0).mono ?_
  rintro e x2 ⟨rfl, dd⟩
  have R0 := dd.is
  have tt := dd.turns
  have v2 := H1.out.1.turns tt (by simpa using hgp)
  have t0 := H1.out.2.trans tt (by intro x hx; simp at hx; have := HP2.out; exact .inr (by omega))
  have hgx := R0.lt
  obtain ⟨nm, hnm⟩ : ∃ nm, nm = strOf s0.readText.1 := ⟨_, rfl⟩
  rw [← hnm]
  obtain ⟨p5, hp5⟩ : ∃ p5, p5 = x2.heap.size := ⟨_, rfl⟩
  obtain ⟨X5, hX5⟩ : ∃ X5, X5 = x2.alloc (.cells #[.string nm, .slice none 0 0, .int .i64 0, .bool false] 30) := ⟨_, rfl⟩
  have v5 := Blk.new x2 [.string nm, .slice none 0 0, .int .i64 0, .bool false] 30
  rw [show x2.alloc (.cells [.string nm, .slice none 0 0, .int .i64 0, .bool false].toArray 30) = X5 from hX5.symm, ← hp5] at v5
  have ta : Turns [] x2 X5 := by rw [hX5]; exact (Turns.refl _ _).alloc _
  have v2 := v2.turns ta (by simp)
  have t0 := t0.trans ta (by simp)
  have R0 := R0.turns ta (by simp) (by simp)
  have BY := Lib.hid (RByte1_any g g s0.readText.2 X5 R0)
  have HN := Lib.hid hnm
  have HX5 := Lib.hid hX5
  have hgp5 : g < p5 := by omega
  have hp25 : p2 < p5 := by have := HP2.out; omega
  have HP5 := Lib.hid hp5
  have H1 := Lib.hid (And.intro v2 (And.intro v5 t0))
  have hbd := readByte_bd s0.readText.2
  clear dd tt R0 v2 t0 hnm ta hX5 hp5 v5 hgx
  go_wp2_with fail
  rw [← HX5.out, ← HP5.out]
  refine BY.out.mono ?_
  rintro e x3 ⟨rfl, dd⟩
  have tt := dd.turns
  have v2 := H1.out.1.turns tt (by simpa using hgp)
  have v5 := H1.out.2.1.turns tt (by simp; omega)
  have t0 := H1.out.2.2.trans tt (by intro x hx; simp at hx; have := HP2.out; exact .inr (by omega))
  have H2 := Lib.hid (And.intro v2 (And.intro v5 t0))
  have R0 := dd.is
  have hhd := Lib.hid (show s0.headN = if 6 < s0.readText.2.readByte.1 then (0, s0.readText.2.readByte.2.fail 4) else (s0.readText.2.readByte.1.toNat, s0.readText.2.readByte.2) from rfl)
  generalize s0.readText.2.readByte.2 = s2 at R0 hhd
  generalize s0.readText.2.readByte.1 = n at hhd hbd
  have h06 := headN_le s0
  obtain ⟨⟨m, s3⟩, hms⟩ : ∃ p, p = s0.headN := ⟨_, rfl⟩
  rw [← hms] at h06 hhd
  have HMS := Lib.hid hms
  replace h06 : m ≤ 6 := h06
  have HN2 := Lib.hid HN.out
  clear dd tt v2 v5 t0 BY hms HN
  go_upto_if 16 with fail
  go_cut [6] (fun u wx => u = .int .i64 (m : Nat) ∧ IsR wx g g s3 ∧ Turns [g] x3 wx)
  case first =>
    by_cases h6 : 6 < n
    · have FL := Lib.hid (Fail_any g g s2.rest s2.err 4 x3 R0)
      have he := hhd.out
      rw [if_pos h6] at he
      injection he with e1 e2
      subst e1 e2
      clear hhd R0
      go_wp2_with fail
      refine FL.out.mono ?_
      rintro e x4 ⟨rfl, rr, oo⟩
      have tt : Turns [g] x3 x4 := Turns.of_grown oo (by intro k hk; injection hk with hk; simp [hk])
      clear FL oo
      go_wp2_with fail
      go_meet
      exact ⟨rfl, rr, tt⟩
    · have he := hhd.out
      rw [if_neg h6] at he
      injection he with e1 e2
      subst e2
      have hn0 : (m : Int) = n := by omega
      have HN0 := Lib.hid hn0
      have RR := Lib.hid R0
      clear hn0 hhd e1 R0
      go_wp2_with fail
      go_meet
      exact ⟨by rw [HN0.out], RR.out, Turns.refl _ _⟩
  case rest =>
    obtain ⟨rfl, R0, tt⟩ := hcut
    have v2 := H2.out.1.turns tt (by simpa using hgp)
    have v5 := H2.out.2.1.turns tt (by simp; omega)
    have t0 := H2.out.2.2.trans tt (by intro x hx; simp at hx; have := HP2.out; exact .inr (by omega))
    clear tt H1 H2 hhd
    have hgl := R0.lt
    have hp5l := v5.lt
    have hp2l := v2.lt
    have hw0 := t0.size
    have hwp := HP2.out
    obtain ⟨X6, hX6⟩ : ∃ X6, X6 = wc := ⟨_, rfl⟩
    subst hX6
    have hgw : w.heap.size ≤ g := by omega
    have H3 := Lib.hid (And.intro R0 (And.intro v2 (And.intro v5 t0)))
    clear R0 v2 v5 t0 hwp
    go_wp2_with fail
    go_loopw [20] (fun i wr => ∃ (k : Nat) (A : Option Addr) (c : Nat), k ≤ m ∧ i = .int .i64 k ∧ IsR wr g g (s3.cols k).2 ∧ Blk wr p2 [.string ⟨#[]⟩, .slice none 0 0, .int .i64 0, .bool false] 30 ∧ Blk wr p5 [.string nm, .slice A k c, .int .i64 0, .bool false] 30 ∧ wr.ownsRow X6.heap.size 27 3 (.slice A k c) k (colCells (s3.cols k).1) ∧ Turns [] w wr ∧ X6.heap.size ≤ wr.heap.size) (fun i _ => m - (intOf i).toNat)
    case atStart => exact ⟨0, none, 0, by omega, rfl, H3.out.1, H3.out.2.1, H3.out.2.2.1, World.ownsRow_nil _ _ _ _, H3.out.2.2.2, Nat.le_refl _⟩
    case round =>
      obtain ⟨k, A, c, hk, rfl, R0, v2, v5, o0, t0, hx6⟩ := hrel
      by_cases hlt : k < m
      · have hki : (k : Int) < (m : Int) := by omega
        have hnx : s3.cols (k + 1) = ((s3.cols k).1 ++ [(s3.cols k).2.readCol.1], (s3.cols k).2.readCol.2) := rfl
        obtain ⟨⟨l, s⟩, hls⟩ : ∃ p, p = s3.cols k := ⟨_, rfl⟩
        rw [← hls] at R0 o0 hnx
        dsimp only at R0 o0 hnx
        have HLS := Lib.hid hls
        have HNX := Lib.hid hnx
        obtain ⟨y0, hy0⟩ : ∃ y0, y0 = wr.drew := ⟨_, rfl⟩
        have ty : Turns [] wr y0 := by rw [hy0]; exact (Turns.refl _ _).drew
        replace R0 := R0.turns ty (by simp) (by simp)
        replace v2 := v2.turns ty (by simp)
        replace v5 := v5.turns ty (by simp)
        replace o0 := own_t0 o0 ty
        replace t0 := t0.trans ty (by simp)
        replace hx6 := Nat.le_trans hx6 ty.size
        have HY0 := Lib.hid hy0
        have HH := Lib.hid (And.intro R0 (And.intro v2 (And.intro v5 (And.intro o0 t0))))
        have z27 := zero27
        clear hy0 ty hls hnx R0 v2 v5 o0 t0
        go_upto_region 9 with fail
        obtain ⟨R0, v2, v5, o0, t0⟩ := HH.out
        refine reg_begin (fun _ => True) (fun W => Blk W p5 [.string nm, .slice A k c, .int .i64 0, .bool false] 30) 12 13 #[false, false, false, false, false, false, false, false, false, false, false, false, false] (by kernel_rfl) (by kernel_rfl) (by kernel_rfl) ?_
        rw [← HY0.out]
        refine reg_take 0 22 12 #[true, false, false, false, false, false, false, false, false, false, false, false, false] (by rfl) (v := ?_) rfl rfl (by kernel_rfl) (by kernel_rfl) (by kernel_rfl) (by kernel_rfl) (fun _ _ _ h => h) (by rfl) ?_ (Till.mk' trivial v5) ?_
        rotate_left
        · intro W hS; go_simp; all_goals with_reducible rfl
        try simp only [List.setIfInBounds_toArray, List.set_cons_succ, List.set_cons_zero]
        refine reg_take_t 1 23 11 #[true, true, false, false, false, false, false, false, false, false, false, false, false] (by rfl) (v := ?_) rfl rfl (by kernel_rfl) (by kernel_rfl) (by kernel_rfl) (by kernel_rfl) (fun _ _ _ h => h) (by rfl) (by kernel_rfl) (by kernel_rfl) ?_ (Till.mk' trivial v5) ?_
        rotate_left
        · rintro W ⟨-, b5⟩; have c5 := b5.cell 1; simp only [List.getElem?_cons_zero, List.getElem?_cons_succ] at c5; go_simp; all_goals with_reducible rfl
        try simp only [List.setIfInBounds_toArray, List.set_cons_succ, List.set_cons_zero]
        refine reg_take 2 24 10 #[true, true, true, false, false, false, false, false, false, false, false, false, false] (by rfl) (v := ?_) rfl rfl (by kernel_rfl) (by kernel_rfl) (by kernel_rfl) (by kernel_rfl) (fun _ _ _ h => h) (by rfl) ?_ (Till.mk' trivial v5) ?_
        rotate_left
        · intro W hS; go_simp; all_goals with_reducible rfl
        try simp only [List.setIfInBounds_toArray, List.set_cons_succ, List.set_cons_zero]
        refine reg_take 4 26 9 #[true, true, true, false, true, false, false, false, false, false, false, false, false] (by rfl) (v := ?_) rfl rfl (by kernel_rfl) (by kernel_rfl) (by kernel_rfl) (by kernel_rfl) (fun _ _ _ h => h) (by rfl) ?_ (Till.mk' trivial v5) ?_
        rotate_left
        · intro W hS; go_simp; all_goals with_reducible rfl
        try simp only [List.setIfInBounds_toArray, List.set_cons_succ, List.set_cons_zero]
        refine reg_take 6 28 8 #[true, true, true, false, true, false, true, false, false, false, false, false, false] (by rfl) (v := ?_) rfl rfl (by kernel_rfl) (by kernel_rfl) (by kernel_rfl) (by kernel_rfl) (fun _ _ _ h => h) (by rfl) ?_ (Till.mk' trivial v5) ?_
        rotate_left
        · intro W hS; go_simp; all_goals with_reducible rfl
        try simp only [List.setIfInBounds_toArray, List.set_cons_succ, List.set_cons_zero]
        refine reg_one 3 7 #[true, true, true, true, true, false, true, false, false, false, false, false, false] (by kernel_rfl) rfl (by rfl) (by kernel_rfl) (fun K hK => ?_)
        go_simp
        refine (RText_read g g s y0 R0).mono ?_
        rintro e y1 ⟨rfl, dd⟩
        have R0 := dd.is
        have tt := dd.turns
        have hx6 := Nat.le_trans hx6 tt.size
        have o0 := own_tL o0 tt (by intro x hx; simp at hx; subst hx; intro e; have := (o0.lt _ e).1; omega)
        have v5 := v5.turns tt (by simp; omega)
        have v2 := v2.turns tt (by simp; omega)
        have t0 := t0.trans tt (by intro x hx; simp at hx; exact .inr (by omega))
        clear dd tt
        refine hK _ _ (Till.mk' trivial v5) ?_
        clear hK K
        try simp only [List.setIfInBounds_toArray, List.set_cons_succ, List.set_cons_zero]
        refine reg_one 5 6 #[true, true, true, true, true, true, true, false, false, false, false, false, false] (by kernel_rfl) rfl (by rfl) (by kernel_rfl) (fun K hK => ?_)
        go_simp
        refine (RByte1_any g g s.readText.2 y1 R0).mono ?_
        rintro e y2 ⟨rfl, dd⟩
        have R0 := dd.is
        have tt := dd.turns
        have hx6 := Nat.le_trans hx6 tt.size
        have o0 := own_tL o0 tt (by intro x hx; simp at hx; subst hx; intro e; have := (o0.lt _ e).1; omega)
        have v5 := v5.turns tt (by simp; omega)
        have v2 := v2.turns tt (by simp; omega)
        have t0 := t0.trans tt (by intro x hx; simp at hx; exact .inr (by omega))
        clear dd tt
        refine hK _ _ (Till.mk' trivial v5) ?_
        clear hK K
        try simp only [List.setIfInBounds_toArray, List.set_cons_succ, List.set_cons_zero]
        refine reg_one 7 5 #[true, true, true, true, true, true, true, true, false, false, false, false, false] (by kernel_rfl) rfl (by rfl) (by kernel_rfl) (fun K hK => ?_)
        go_simp
        refine (truth_any g g s.readText.2.readByte.2 y2 R0).mono ?_
        rintro e y3 ⟨rfl, dd⟩
        have R0 := dd.is
        have tt := dd.turns
        have hx6 := Nat.le_trans hx6 tt.size
        have o0 := own_tL o0 tt (by intro x hx; simp at hx; subst hx; intro e; have := (o0.lt _ e).1; omega)
        have v5 := v5.turns tt (by simp; omega)
        have v2 := v2.turns tt (by simp; omega)
        have t0 := t0.trans tt (by intro x hx; simp at hx; exact .inr (by omega))
        clear dd tt
        refine hK _ _ (Till.mk' trivial v5) ?_
        clear hK K
        try simp only [List.setIfInBounds_toArray, List.set_cons_succ, List.set_cons_zero]
        refine reg_take 8 30 4 #[true, true, true, true, true, true, true, true, true, false, false, false, false] (by rfl) (v := ?_) rfl rfl (by kernel_rfl) (by kernel_rfl) (by kernel_rfl) (by kernel_rfl) (fun _ _ _ h => h) (by rfl) ?_ (Till.mk' trivial v5) ?_
        rotate_left
        · intro W hS; go_simp; all_goals with_reducible rfl
        try simp only [List.setIfInBounds_toArray, List.set_cons_succ, List.set_cons_zero]
        refine reg_one 9 3 #[true, true, true, true, true, true, true, true, true, true, false, false, false] (by kernel_rfl) rfl (by rfl) (by kernel_rfl) (fun K hK => ?_)
        go_simp
        obtain ⟨y4, hy4⟩ : ∃ y4, y4 = y3.alloc (.cells #[.string (strOf s.readText.1), .int .i64 s.readText.2.readByte.1, .bool s.readText.2.readByte.2.readFlag.1] 27) := ⟨_, rfl⟩
        obtain ⟨v7, y5, hr7, ap⟩ := run_append_rd (P := Try.prog) _ T28 28 (o0.alloc (.cells #[.string (strOf s.readText.1), .int .i64 s.readText.2.readByte.1, .bool s.readText.2.readByte.2.readFlag.1] 27)) (Sl.new y3 #[.string (strOf s.readText.1), .int .i64 s.readText.2.readByte.1, .bool s.readText.2.readByte.2.readFlag.1] 27 1 3 rfl (by simp [maxLen])) (by intro u hu; simp at hu; rcases hu with rfl | rfl | rfl <;> rfl) (by simp only [maxLen]; omega) (by omega) (by have := R0.lt; have := v5.lt; simp; omega)
        have ta : Turns [] y3 y4 := by rw [hy4]; exact (Turns.refl _ _).alloc _
        rw [← hy4] at hr7 ap
        have v5a := v5.turns ta (by simp)
        have tb : Turns (Value.slice A k c).ownBlock.toList y4 y5 := Turns.of_grown ap.grown (by intro x hx; exact .inl (by simpa using hx))
        have hbk : ∀ x ∈ (Value.slice A k c).ownBlock.toList, X6.heap.size ≤ x := by intro x hx; exact (o0.lt x (by simpa using hx)).1
        have R0 := (R0.turns ta (by simp) (by simp)).turns tb (by intro hx; have := hbk _ hx; omega) (by intro x hx; have := hbk _ hx; omega)
        have v5 := v5a.turns tb (by intro hx; have := hbk _ hx; omega)
        have v2 := (v2.turns ta (by simp)).turns tb (by intro hx; have := hbk _ hx; omega)
        have hx6 := Nat.le_trans (Nat.le_trans hx6 ta.size) tb.size
        have t0 := (t0.trans ta (by simp)).trans tb (by intro x hx; have := hbk _ hx; exact .inr (by omega))
        obtain ⟨A7, c7, rfl⟩ := own_form' ap.own
        have q5 := v5.cell 1
        have f5 := v5.free 1
        simp only [List.getElem?_cons_zero, List.getElem?_cons_succ] at q5
        rw [← hy4]
        have HY4 := Lib.hid hy4
        clear hy4 ta tb hbk
        refine hK _ _ (Till.mk' trivial v5a) ?_
        clear hK K
        try simp only [List.setIfInBounds_toArray, List.set_cons_succ, List.set_cons_zero]
        refine reg_one 10 2 #[true, true, true, true, true, true, true, true, true, true, true, false, false] (by kernel_rfl) rfl (by rfl) (by kernel_rfl) (fun K hK => ?_)
        refine wp_append_run _ (.tmp 23) (.tmp 31) rfl (by rfl) (by rfl) (R := fun v w' => .slice A7 (k + 1) c7 = v ∧ y5 = w') ⟨_, _, hr7, rfl, rfl⟩ ?_
        rintro _ _ ⟨rfl, rfl⟩
        refine hK _ _ (Till.mk' trivial v5) ?_
        clear hK K
        try simp only [List.setIfInBounds_toArray, List.set_cons_succ, List.set_cons_zero]
        refine reg_take 11 33 1 #[true, true, true, true, true, true, true, true, true, true, true, true, false] (by rfl) (v := ?_) rfl rfl (by kernel_rfl) (by kernel_rfl) (by kernel_rfl) (by kernel_rfl) (fun _ _ _ h => h) (by rfl) ?_ (Till.mk' trivial v5) ?_
        rotate_left
        · intro W hS; go_simp; all_goals with_reducible rfl
        try simp only [List.setIfInBounds_toArray, List.set_cons_succ, List.set_cons_zero]
        refine reg_one 12 0 #[true, true, true, true, true, true, true, true, true, true, true, true, true] (by kernel_rfl) rfl (by rfl) (by kernel_rfl) (fun K hK => ?_)
        go_simp
        refine hK _ _ (Till.past trivial (by kernel_rfl)) ?_
        clear hK K
        try simp only [List.setIfInBounds_toArray, List.set_cons_succ, List.set_cons_zero]
        refine reg_done (by kernel_rfl) ?_ _
        have v5z := v5.set 1 (.slice A7 (k + 1) c7)
        simp only [List.set_cons_succ, List.set_cons_zero] at v5z
        have v2z := v2.other (p := ⟨p5, 1, none⟩) (by simp; omega) (.slice A7 (k + 1) c7)
        have ts := Turns.setCell (L := [p5]) (p := ⟨p5, 1, none⟩) (Turns.refl [p5] y5) (.inl (by simp)) (.slice A7 (k + 1) c7)
        have R0z := R0.turns ts (by simp; omega) (by intro x hx; simp at hx; omega)
        have t0z := t0.trans ts (by intro x hx; simp at hx; exact .inr (by omega))
        have hne7 : (Value.slice A7 (k + 1) c7).ownBlock ≠ some p5 := by
          intro e; have := (ap.own.lt _ e).1; omega
        have o0z := own_tL ap.own ts (by intro x hx; simp at hx; subst hx; exact hne7)
        have hxz := Nat.le_trans hx6 ts.size
        have hce := Lib.hid (show colCells (s3.cols (k + 1)).1 = colCells l ++ [.string (strOf s.readText.1), .int .i64 s.readText.2.readByte.1, .bool s.readText.2.readByte.2.readFlag.1] by rw [HNX.out]; rw [colCells_app]; rfl)
        have hre := Lib.hid (show (s3.cols (k + 1)).2 = s.readText.2.readByte.2.readFlag.2 by rw [HNX.out]; rfl)
        have ho : (y5.setCell ⟨p5, 1, none⟩ (.slice A7 (k + 1) c7)).ownsRow X6.heap.size 27 3 (.slice A7 (k + 1) c7) (k + 1) (colCells (s3.cols (k + 1)).1) := by rw [hce.out]; exact o0z
        have hr : IsR (y5.setCell ⟨p5, 1, none⟩ (.slice A7 (k + 1) c7)) g g (s3.cols (k + 1)).2 := by rw [hre.out]; exact R0z
        have HF := Lib.hid (And.intro hr (And.intro v2z (And.intro v5z (And.intro ho (And.intro t0z hxz)))))
        clear v5z v2z ts R0z t0z hne7 o0z hxz ho hr ap hr7 R0 v2 v5 o0 t0
        go_wp2_with fail
        go_roundw
        case rel => exact ⟨k + 1, A7, c7, by omega, by go_num, HF.out.1, HF.out.2.1, HF.out.2.2.1, HF.out.2.2.2.1, HF.out.2.2.2.2.1, HF.out.2.2.2.2.2⟩
        case measure => (simp [intOf] <;> omega)
      · obtain rfl : k = m := by omega
        obtain ⟨⟨l, s⟩, hls⟩ : ∃ p, p = s3.cols k := ⟨_, rfl⟩
        rw [← hls] at R0 o0
        dsimp only at R0 o0
        have hlen := colsN_len s3 k
        rw [← hls] at hlen
        dsimp only at hlen
        have HLS := Lib.hid hls
        have h1c : ∀ u ∈ colCells l, u.oneCell' = true := by
          intro u hu
          simp only [colCells, List.mem_flatMap] at hu
          obtain ⟨c, _, hc⟩ := hu
          simp only [Col.cells, List.mem_cons, List.not_mem_nil, or_false] at hc
          rcases hc with rfl | rfl | rfl <;> rfl
        have CL := Lib.hid (CloneCol_any (.slice A k c) k (colCells l) h1c wr (Sl.of_own o0) (by omega))
        have q5 := v5.cell 1
        simp only [List.getElem?_cons_zero, List.getElem?_cons_succ] at q5
        have H4 := Lib.hid (And.intro R0 (And.intro v2 (And.intro v5 (And.intro t0 (And.intro hx6 o0)))))
        clear R0 v2 v5 t0 o0 hls hx6 h1c
        go_wp2_with fail
        refine CL.out.mono ?_
        rintro e z1 ⟨v6, rfl, o6, tt⟩
        obtain ⟨A6, c6, rfl⟩ := own_form' o6
        have R0 := H4.out.1.turns tt (by simp) (by simp)
        have v2 := H4.out.2.1.turns tt (by simp)
        have v5 := H4.out.2.2.1.turns tt (by simp)
        have t0 := H4.out.2.2.2.1.trans tt (by simp)
        have hxw := H4.out.2.2.2.2.1
        have hzt := tt.size
        have q5 := v5.cell 1
        have f5 := v5.free 1
        simp only [List.getElem?_cons_zero, List.getElem?_cons_succ] at q5
        have ts := Turns.setCell (L := [p5]) (p := ⟨p5, 1, none⟩) (Turns.refl [p5] z1) (.inl (by simp)) (.slice A6 k c6)
        obtain ⟨z2, hz2⟩ : ∃ z2, z2 = z1.setCell ⟨p5, 1, none⟩ (.slice A6 k c6) := ⟨_, rfl⟩
        have v5 := v5.set 1 (.slice A6 k c6)
        simp only [List.set_cons_succ, List.set_cons_zero] at v5
        have v2 := v2.other (p := ⟨p5, 1, none⟩) (by simp; omega) (.slice A6 k c6)
        have R0 := R0.turns ts (by simp; omega) (by intro x hx; simp at hx; omega)
        have t0 := t0.trans ts (by intro x hx; simp at hx; exact .inr (by omega))
        have o6 := own_tL o6 ts (by intro x hx; simp at hx; subst hx; intro e; have := (o6.lt _ e).1; omega)
        rw [← hz2] at v5 v2 R0 t0 o6
        have IN := Lib.hid (RInt8_any g g s z2 R0)
        have HZ2 := Lib.hid hz2
        have H5 := Lib.hid (And.intro v2 (And.intro v5 (And.intro t0 o6)))
        have HZT := Lib.hid (show wr.heap.size ≤ z2.heap.size by rw [hz2]; simpa [World.setCell] using hzt)
        clear R0 v2 v5 t0 o6 tt ts hz2 CL H4 hzt
        go_wp2_with fail
        rw [← HZ2.out]
        refine IN.out.mono ?_
        rintro e z3 ⟨rfl, dd⟩
        have hwz := HZT.out
        have tt := dd.turns
        have v2 := H5.out.1.turns tt (by simp; omega)
        have v5 := H5.out.2.1.turns tt (by simp; omega)
        have t0 := H5.out.2.2.1.trans tt (by intro x hx; simp at hx; exact .inr (by omega))
        have o6 := own_tL H5.out.2.2.2 tt (by intro x hx; simp at hx; subst hx; intro e; have := (H5.out.2.2.2.lt _ e).1; omega)
        have TR := Lib.hid (truth_any g g s.readInt.2 z3 dd.is)
        have H6 := Lib.hid (And.intro v2 (And.intro v5 (And.intro t0 o6)))
        have hkk := Lib.hid (show s.tailKey = (s.readInt.1, s.readInt.2.readFlag.1, s.readInt.2.readFlag.2) from rfl)
        generalize s.readInt.2 = sa at TR hkk
        generalize s.readInt.1 = key at hkk
        clear v2 v5 t0 o6 tt dd IN H5 hwz
        go_wp2_with fail
        refine TR.out.mono ?_
        rintro e z4 ⟨rfl, dd⟩
        have tt := dd.turns
        have v2 := H6.out.1.turns tt (by simp; omega)
        have v5 := H6.out.2.1.turns tt (by simp; omega)
        have t0 := H6.out.2.2.1.trans tt (by intro x hx; simp at hx; exact .inr (by omega))
        have hwz := HZT.out
        have o6 := own_tL H6.out.2.2.2 tt (by intro x hx; simp at hx; subst hx; intro e; have := (H6.out.2.2.2.lt _ e).1; omega)
        have R0 := dd.is
        generalize sa.readFlag.2 = sb at R0 hkk
        generalize sa.readFlag.1 = only at hkk
        have q2 := v5.cell 2
        have f2 := v5.free 2
        have q3 := v5.cell 3
        have f3 := v5.free 3
        simp only [List.getElem?_cons_zero, List.getElem?_cons_succ] at q2 q3
        have v5a := v5.set 2 (.int .i64 key)
        simp only [List.set_cons_succ, List.set_cons_zero] at v5a
        have v5b := v5a.set 3 (.bool only)
        simp only [List.set_cons_succ, List.set_cons_zero] at v5b
        have ts := Turns.setCell (L := [p5]) (p := ⟨p5, 3, none⟩) (Turns.setCell (L := [p5]) (p := ⟨p5, 2, none⟩) (Turns.refl [p5] z4) (.inl (by simp)) (.int .i64 key)) (.inl (by simp)) (.bool only)
        have v2 := v2.turns ts (by simp; omega)
        have R0 := R0.turns ts (by simp; omega) (by intro x hx; simp at hx; omega)
        have t0 := t0.trans ts (by intro x hx; simp at hx; exact .inr (by omega))
        have o6 := own_tL o6 ts (by intro x hx; simp at hx; subst hx; intro e; have := (o6.lt _ e).1; omega)
        obtain ⟨z5, hz5⟩ : ∃ z5, z5 = (z4.setCell ⟨p5, 2, none⟩ (.int .i64 key)).setCell ⟨p5, 3, none⟩ (.bool only) := ⟨_, rfl⟩
        rw [← hz5] at v5b v2 R0 t0 o6
        have EN := Lib.hid (End_any g g sb z5 R0)
        have HZ5 := Lib.hid hz5
        have H7 := Lib.hid (And.intro v2 (And.intro v5b (And.intro t0 o6)))
        clear v2 v5 v5a v5b t0 o6 tt ts dd R0 hz5 TR H6 hwz
        go_wp2_with fail
        rw [← HZ5.out]
        refine EN.out.mono ?_
        rintro e zz ⟨rfl, rfl⟩
        have hres := Lib.hid (show res = finish ⟨nm, l, key, only⟩ sb.endErr by
          rw [hfin.out]
          unfold RS.schema
          dsimp only
          rw [← HMS.out]
          dsimp only
          rw [← HLS.out]
          dsimp only
          rw [hkk.out, HN2.out])
        have hft : (⟨nm, l, key, only⟩ : Sch).fits := ⟨by
            show nm.size ≤ _
            rw [HN2.out, strOf_size]
            have := readText_len s0
            omega, fun c hc => by
            have := colsN_names s3 k c
            rw [← HLS.out] at this
            exact this hc⟩
        generalize sb.endErr = se at hres
        obtain ⟨v2, v5, t0, o6⟩ := H7.out
        have hwz := HZT.out
        have sl := Sl.of_own o6
        clear EN hkk
        by_cases hse : se = 0
        · subst hse
          have r5 := v5.range 0 4
          rw [List.drop_zero, List.take_of_length_le (by simp)] at r5
          have hsz : (Try.prog.info? 30).map (·.size) = some ([.string nm, .slice A6 k c6, .int .i64 key, .bool only] : List Value).length := by kernel_rfl
          have CK := Lib.hid (Check_any ⟨nm, l, key, only⟩ A6 k c6 z5.heap.size z5 hft sl (Nat.le_refl _))
          have hS := Lib.hid sl
          clear sl
          go_wp2_with (first
            | (refine wpList_load_mid rfl 30 (.tmp 5) rfl p5 0 rfl _ _ r5 Try.underlying30 rfl hsz ?_)
            | fail)
          refine CK.out.mono ?_
          rintro e z6 ⟨rfl, tt⟩
          have v2 := H7.out.1.turns tt (by simp)
          have t0 := H7.out.2.2.1.trans tt (by simp)
          have r6 := rangeT tt r5
          have sl : Sl z6 z5.heap.size 3 (.slice A6 k c6) k (colCells l) := tt.slice hS.out (Nat.le_refl _) (by simp)
          have hz6 := tt.size
          have hbp : (Value.slice A6 k c6).ownBlock ≠ some p2 := by
            intro e
            have := (H7.out.2.2.2.lt _ e).1
            omega
          obtain ⟨ck, hcke⟩ : ∃ ck, ck = checkS ⟨nm, l, key, only⟩ := ⟨_, rfl⟩
          have hck0 := Lib.hid hcke.symm
          rw [← hcke]
          clear tt CK r5 hS hcke
          by_cases hckn : ck = 0
          · subst hckn
            have hp2e := HP2.out
            have q0 := v2.cell 0
            have gq0 := v2.free 0
            have q1 := v2.cell 1
            have gq1 := v2.free 1
            have q2 := v2.cell 2
            have gq2 := v2.free 2
            have q3 := v2.cell 3
            have gq3 := v2.free 3
            simp only [List.getElem?_cons_zero, List.getElem?_cons_succ] at q0 q1 q2 q3
            have vz := v2.setCells [.string nm, .slice A6 k c6, .int .i64 key, .bool only] 0
            rw [spl_whole _ _ (by rfl)] at vz
            have tz := Turns.setCells (L := []) (b := p2) (.inr (by omega)) [.string nm, .slice A6 k c6, .int .i64 key, .bool only] 0 t0
            have ts := Turns.setCells (L := [p2]) (b := p2) (.inl (by simp)) [.string nm, .slice A6 k c6, .int .i64 key, .bool only] 0 (Turns.refl [p2] z6)
            have sz := ts.slice (sl.more (Nat.le_refl _)) (by simpa using hz6) (by intro x hx; simp at hx; subst hx; exact hbp)
            have HR := Lib.hid (show res = (⟨nm, l, key, only⟩, 0) by rw [hres.out]; unfold finish; simp [hck0.out])
            have HE := Lib.hid (And.intro vz (And.intro tz (And.intro sz (Nat.le_trans hz6 ts.size))))
            clear vz tz v2 t0 v5 hp2e ts sz sl
            go_wp2_with (first
              | (refine wpList_load_mid rfl 30 (.tmp 5) rfl p5 0 rfl _ _ r6 Try.underlying30 rfl hsz ?_)
              | fail)
            have F := HE.out
            (try simp only [Exit.inBlock, Exit.then])
            refine bodyPost_ret (results_two rfl _ _ p2 _ _ _ _ rfl rfl F.1 Try.underlying30 rfl (by kernel_rfl)) rfl ?_
            exact PRes_full (S := ⟨nm, l, key, only⟩) HR.out (F.2.2.1.more F.2.2.2) F.2.1
          · clear sl
            have hp2e := HP2.out
            have q0 := v2.cell 0
            have gq0 := v2.free 0
            have q1 := v2.cell 1
            have gq1 := v2.free 1
            have q2 := v2.cell 2
            have gq2 := v2.free 2
            have q3 := v2.cell 3
            have gq3 := v2.free 3
            simp only [List.getElem?_cons_zero, List.getElem?_cons_succ] at q0 q1 q2 q3
            have vz := v2.setCells [.string ⟨#[]⟩, .slice none 0 0, .int .i64 0, .bool false] 0
            rw [spl_whole _ _ (by rfl)] at vz
            have tz := Turns.setCells (L := []) (b := p2) (.inr (by omega)) [.string ⟨#[]⟩, .slice none 0 0, .int .i64 0, .bool false] 0 t0
            have HR := Lib.hid (show res = (noSch, ck) from by rw [hres.out]; unfold finish; simp [hck0.out, hckn])
            have HE := Lib.hid (And.intro vz tz)
            clear vz tz v2 t0 v5 hp2e
            go_wp2_with fail
            have F := HE.out
            (try simp only [Exit.inBlock, Exit.then])
            refine bodyPost_ret (results_two rfl _ _ p2 _ _ _ _ rfl rfl F.1 Try.underlying30 rfl (by kernel_rfl)) rfl ?_
            exact PRes_zero HR.out F.2
        · clear sl
          have hp2e := HP2.out
          have q0 := v2.cell 0
          have gq0 := v2.free 0
          have q1 := v2.cell 1
          have gq1 := v2.free 1
          have q2 := v2.cell 2
          have gq2 := v2.free 2
          have q3 := v2.cell 3
          have gq3 := v2.free 3
          simp only [List.getElem?_cons_zero, List.getElem?_cons_succ] at q0 q1 q2 q3
          have vz := v2.setCells [.string ⟨#[]⟩, .slice none 0 0, .int .i64 0, .bool false] 0
          rw [spl_whole _ _ (by rfl)] at vz
          have tz := Turns.setCells (L := []) (b := p2) (.inr (by omega)) [.string ⟨#[]⟩, .slice none 0 0, .int .i64 0, .bool false] 0 t0
          have HR := Lib.hid (show res = (noSch, se) from by rw [hres.out]; unfold finish; simp [hse])
          have HE := Lib.hid (And.intro vz tz)
          clear vz tz v2 t0 v5 hp2e
          go_wp2_with fail
          have F := HE.out
          (try simp only [Exit.inBlock, Exit.then])
          refine bodyPost_ret (results_two rfl _ _ p2 _ _ _ _ rfl rfl F.1 Try.underlying30 rfl (by kernel_rfl)) rfl ?_
          exact PRes_zero HR.out F.2
end Go.Proofs.Ytdllgnccjejhiaa
