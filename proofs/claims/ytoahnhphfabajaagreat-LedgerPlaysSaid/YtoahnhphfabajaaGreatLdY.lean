/- The changes of a step, walked. -/
import Derived.Test.YtoahnhphfabajaaGreatLdX
namespace Go.Proofs.YtoahnhphfabajaaGreat
open Go.RowKit
set_option linter.unusedVariables false
set_option maxRecDepth 10000
set_option linter.unusedSimpArgs false
set_option linter.unnecessarySimpa false

/-- A step's changes. -/
def stC (s : Stp) (k : Nat) : Chg := ⟨s.name, 1 + (IntKind.i64.wrap (s.op + (k : Int))) % 2, s.v.map gval ++ [⟨2, (k : Int), ⟨#[]⟩⟩]⟩
def stN (s : Stp) : Nat := 1 + ((s.n.tdiv 4) % 4).toNat
def stCs (s : Stp) : List Chg := (List.range (stN s)).map (stC s)
theorem stCs_len (s : Stp) : (stCs s).length = stN s := by simp [stCs]
theorem stN_le (s : Stp) : stN s ≤ 4 := by unfold stN; omega
theorem stCs_step (s : Stp) (k : Nat) (hk : k < stN s) : (stCs s).take (k + 1) = (stCs s).take k ++ [stC s k] := by
  rw [List.take_succ_eq_append_getElem (by rw [stCs_len]; exact hk)]
  simp [stCs]
def fewS (s : Stp) : Bool := decide (s.name.size ≤ 30) && fewVs s.v
theorem stC_ok {s : Stp} (h : s.fits) (hf : fewS s = true) (k : Nat) (hk : k ≤ 4) : (stC s k).ok := by
  unfold fewS at hf
  simp only [Bool.and_eq_true, decide_eq_true_eq] at hf
  have h1 := fewVs_len hf.2
  refine ⟨by show s.name.size ≤ 1000; omega, ⟨by show _ ≤ 1 + _ % 2; omega, by show 1 + _ % 2 ≤ _; omega⟩, by show (s.v.map gval ++ _).length ≤ 100; simp; omega, ?_⟩
  intro v hv
  rcases List.mem_append.1 hv with hv | hv
  · obtain ⟨x, hx, rfl⟩ := List.mem_map.1 hv
    exact gval_fits x (h.v x hx)
  · simp at hv
    subst hv
    exact ⟨⟨by show (-9223372036854775808 : Int) ≤ 2; omega, by show (2 : Int) ≤ _; omega⟩, ⟨by show (-9223372036854775808 : Int) ≤ (k : Int); omega, by show (k : Int) ≤ _; omega⟩, none_fits⟩
theorem stCs_ok {s : Stp} (h : s.fits) (hf : fewS s = true) : (stCs s).length ≤ 1000 ∧ ∀ x ∈ stCs s, x.ok := by
  have hn := stN_le s
  refine ⟨by rw [stCs_len]; omega, fun x hx => ?_⟩
  obtain ⟨k, hk, rfl⟩ := List.mem_map.1 hx
  simp at hk
  exact stC_ok h hf k (by omega)

theorem size_stp (n op : Int) (nm : ByteArray) (rv : Value) : (Tryz.prog.info? 37).map (·.size) = some ([.int .i64 n, .int .i64 op, .string nm, rv] : List Value).length := by kernel_rfl
set_option maxRecDepth 100000 in
set_option maxHeartbeats 16000000 in
theorem Changes_any (s : Stp) (hf : s.fits) (hfew : fewS s = true) (rv : Value) (S : Nat → Prop) (w0 : World) (hsl : SlS w0 S 3 rv s.v.length (valCells s.v)) :
    Calls Tryz.prog 13 #[.agg #[.int .i64 s.n, .int .i64 s.op, .string s.name, rv]] w0 fun e w' => ∃ A c, e = .returned (.slice A (stN s) c) ∧ Deep ChgR w' (fun b => w0.heap.size ≤ b) 3 (.slice A (stN s) c) (stCs s) ∧ Turns [] w0 w' := by
  obtain ⟨Ar, cr, rfl, _⟩ := hsl.form'
  obtain ⟨p, hp⟩ : ∃ p, p = w0.heap.size := ⟨_, rfl⟩
  obtain ⟨w, hw⟩ : ∃ x, x = w0.alloc (.cells #[.int .i64 s.n, .int .i64 s.op, .string s.name, .slice Ar s.v.length cr] 37) := ⟨_, rfl⟩
  have bc := Blk.new w0 [.int .i64 s.n, .int .i64 s.op, .string s.name, .slice Ar s.v.length cr] 37
  have t0 := (Turns.refl [] w0).alloc (.cells #[.int .i64 s.n, .int .i64 s.op, .string s.name, .slice Ar s.v.length cr] 37)
  rw [show w0.alloc (.cells [.int .i64 s.n, .int .i64 s.op, .string s.name, .slice Ar s.v.length cr].toArray 37) = w from hw.symm, ← hp] at bc
  rw [← hw] at t0
  have c3 := bc.cell 3
  simp only [List.getElem?_cons_zero, List.getElem?_cons_succ] at c3
  have hlen : s.v.length ≤ 12 := by
    unfold fewS at hfew
    simp only [Bool.and_eq_true] at hfew
    exact fewVs_len hfew.2
  have GD := Lib.hid (Good5_any s.v Ar s.v.length cr w.heap.size w hf.v ((t0.slice hsl.sl (Nat.le_refl _) (by simp)).more t0.size) (Nat.le_refl _) (by omega))
  have HW := Lib.hid (And.intro hw hp)
  have HB := Lib.hid (And.intro bc t0)
  have hq4 : i64ok (s.n.tdiv 4) := by
    have h1 := hf.n.1
    have h2 := hf.n.2
    constructor
    · rcases Int.le_total 0 s.n with h | h
      · have := Int.tdiv_nonneg h (show (0 : Int) ≤ 4 by omega); omega
      · have := Int.neg_tdiv s.n 4
        have h5 := Int.tdiv_nonneg (show 0 ≤ -s.n by omega) (show (0 : Int) ≤ 4 by omega)
        have h6 : (-s.n).tdiv 4 ≤ -s.n := Int.tdiv_le_self _ (by omega)
        omega
    · rcases Int.le_total 0 s.n with h | h
      · have := Int.tdiv_le_self 4 h; omega
      · have := Int.neg_tdiv s.n 4
        have h5 := Int.tdiv_nonneg (show 0 ≤ -s.n by omega) (show (0 : Int) ≤ 4 by omega)
        omega
  obtain ⟨n, hn⟩ : ∃ n, n = stN s := ⟨_, rfl⟩
  have hnv : 1 + (s.n.tdiv 4) % 4 = (n : Int) := by rw [hn]; unfold stN; omega
  have hn4 : n ≤ 4 := by rw [hn]; exact stN_le s
  have hq5 : IntKind.i64.wrap (s.n.tdiv 4) = s.n.tdiv 4 := IntWalk.i64_in _ hq4
  obtain ⟨qn, hqn⟩ : ∃ r, r = s.n.tdiv 4 := ⟨_, rfl⟩
  have WI := fun W => within14_any qn 4 W (by rw [hqn]; exact hq4.1) (by rw [hqn]; exact hq4.2) (by omega) (by omega)
  obtain ⟨r4, hr4⟩ : ∃ r, r = qn % 4 := ⟨_, rfl⟩
  rw [← hqn, ← hr4] at hnv
  rw [← hr4] at WI
  have hq6 : IntKind.i64.wrap (1 + r4) = (n : Int) := by rw [IntWalk.i64_in _ (by omega)]; exact hnv
  have hq7 : IntKind.i64.wrap (s.n.tdiv 4) = qn := by rw [hq5, hqn]
  have HWI := Lib.hid WI
  have HF := Lib.hid (And.intro hf.op (And.intro hn trivial))
  clear hq5 hqn hr4 hnv WI
  rw [← hn]
  clear bc t0 hw hp hsl hq4 hn hf hfew
  go_enter Tryz.func13, Tryz.ntmps13
  go_upto_region 1 with fail
  rw [← HW.out.1, ← HW.out.2]
  go_wp2_with fail
  refine GD.out.mono ?_
  rintro e w1 ⟨A4, c4, rfl, o4, t1⟩
  have bp := HB.out.1.turns t1 (by simp)
  have d0 : DeepO ChgR w1 (SX w1.heap.size w1.heap.size [.slice none 0 0]) 3 w1.heap.size 67 (.slice none 0 0) ((stCs s).take 0) := by simpa using DeepO.nil
  have H1 := Lib.hid (And.intro bp (And.intro (HB.out.2.trans t1 (by simp)) (And.intro (Sl.of_own o4) d0)))
  clear bp o4 t1 d0 GD c3
  go_wp2_with fail
  go_loopw [3, 5] (fun u i wr => ∃ (k : Nat) (A' : Option Addr) (c' : Nat), k ≤ n ∧ i = .int .i64 k ∧ u = .slice A' k c' ∧ DeepO ChgR wr (SX w1.heap.size wr.heap.size [.slice A' k c']) 3 w1.heap.size 67 (.slice A' k c') ((stCs s).take k) ∧ Turns [] w1 wr) (fun _ i _ => n - (intOf i).toNat)
  case atStart => exact ⟨0, none, 0, by omega, rfl, rfl, H1.out.2.2.2, Turns.refl _ _⟩
  case round =>
    obtain ⟨k, Au, cu, hk, rfl, rfl, du, tr⟩ := hrel
    have bpr := H1.out.1.turns tr (by simp)
    have c0 := bpr.cell 0
    simp only [List.getElem?_cons_zero, List.getElem?_cons_succ] at c0
    have HDU := Lib.hid (And.intro du (And.intro tr bpr))
    clear du tr bpr
    go_wp2_with fail
    refine (HWI.out wr).mono ?_
    rintro e wr' ⟨rfl, rfl⟩
    by_cases hlt : k < n
    · have hki : (k : Int) < (n : Int) := by omega
      clear c0
      go_upto_block 1 with fail
      go_cut [3] (fun u wx => ∃ (A' : Option Addr) (c' : Nat), u = .slice A' (k + 1) c' ∧ DeepO ChgR wx (SX w1.heap.size wx.heap.size [.slice A' (k + 1) c']) 3 w1.heap.size 67 (.slice A' (k + 1) c') ((stCs s).take (k + 1)) ∧ Turns [] w1 wx)
      case first =>
        go_upto_region 6 with fail
        obtain ⟨Z, hZ⟩ : ∃ q, q = wr.drew := ⟨_, rfl⟩
        have tZ : Turns [] wr Z := by rw [hZ]; exact (Turns.refl _ _).drew
        have HZZ := Lib.hid hZ
        have t1Z := HDU.out.2.1.trans tZ (by simp)
        have bpZ := HDU.out.2.2.turns tZ (by simp)
        have C1 := bpZ.cell 1
        have C2 := bpZ.cell 2
        simp only [List.getElem?_cons_zero, List.getElem?_cons_succ] at C1 C2
        have slv := (t1Z.slice H1.out.2.2.1 (Nat.le_refl _) (by simp)).more t1Z.size
        have dZ := (HDU.out.1.keep ChgR.lasts tZ (by simp) (by simp)).mono ChgR.lasts (S' := SX w1.heap.size Z.heap.size [.slice Au k cu]) (fun j hj hj' => ⟨hj'.1, hj, hj'.2.2⟩) (Nat.le_refl _)
        have hlv : (s.v.map gval).length = s.v.length := by simp
        obtain ⟨opk, hopk⟩ : ∃ r, r = IntKind.i64.wrap (s.op + (k : Int)) := ⟨_, rfl⟩
        have W2x := fun W => within14_any opk 2 W (by rw [hopk, IntKind.wrap_i64]; omega) (by rw [hopk, IntKind.wrap_i64]; omega) (by omega) (by omega)
        obtain ⟨r2, hr2⟩ : ∃ r, r = opk % 2 := ⟨_, rfl⟩
        rw [← hr2] at W2x
        obtain ⟨o2, ho2⟩ : ∃ r, r = 1 + r2 := ⟨_, rfl⟩
        have HO := Lib.hid (show (stC s k).op = o2 by rw [ho2, hr2, hopk]; rfl)
        have hwo : IntKind.i64.wrap (1 + r2) = o2 := by rw [IntWalk.i64_in _ (by omega)]; exact ho2.symm
        have hwk : IntKind.i64.wrap (s.op + (k : Int)) = opk := hopk.symm
        have W2 := Lib.hid W2x
        clear W2x hopk hr2 ho2
        have HS := Lib.hid (And.intro slv (And.intro (valCells_one (s.v.map gval)) (And.intro dZ t1Z)))
        have HPK := Lib.hid (show p ∉ (Value.slice Au k cu).ownBlock.toList from fun hm => by have h1 := (HDU.out.1.lt p (by simpa using hm)).1; have h2 := H1.out.1.lt; omega)
        have S0 : Turns (Value.slice Au k cu).ownBlock.toList Z Z := Turns.refl _ _
        clear hZ tZ t1Z bpZ slv dZ hlv
        refine rk0 (fun _ => True) (fun W => Turns (Value.slice Au k cu).ownBlock.toList Z W) 19 20 ?_
        rw [← HZZ.out]
        refine rkA 0 18 1 (v := ?_) ?_ (.mk' trivial S0) ?_
        rotate_left
        · intro W hS; go_simp; all_goals with_reducible rfl
        try simp only [sI, sS, sZ]
        refine rkA 1 19 3 (v := ?_) ?_ (.mk' trivial S0) ?_
        rotate_left
        · intro W hS; go_simp; all_goals with_reducible rfl
        try simp only [sI, sS, sZ]
        refine rkT 2 20 7 (v := ?_) ?_ (.mk' trivial S0) ?_
        rotate_left
        · rintro W ⟨-, hS⟩; have c0 := cellL hS C2 HPK.out; go_simp; all_goals with_reducible rfl
        try simp only [sI, sS, sZ]
        refine rkA 3 21 15 (v := ?_) ?_ (.mk' trivial S0) ?_
        rotate_left
        · intro W hS; go_simp; all_goals with_reducible rfl
        try simp only [sI, sS, sZ]
        refine rkT 4 22 31 (v := ?_) ?_ (.mk' trivial S0) ?_
        rotate_left
        · rintro W ⟨-, hS⟩; have c0 := cellL hS C1 HPK.out; go_simp; all_goals with_reducible rfl
        try simp only [sI, sS, sZ]
        refine rkA 5 23 63 (v := ?_) ?_ (.mk' trivial S0) ?_
        rotate_left
        · intro W hS; go_simp; all_goals with_reducible rfl
        try simp only [sI, sS, sZ]
        refine rkA 6 24 127 (v := ?_) ?_ (.mk' trivial S0) ?_
        rotate_left
        · intro W hS; go_simp; all_goals with_reducible rfl
        try simp only [sI, sS, sZ]
        refine rkA 10 28 1151 (v := ?_) ?_ (.mk' trivial S0) ?_
        rotate_left
        · intro W hS; go_simp; all_goals with_reducible rfl
        try simp only [sI, sS, sZ]
        refine rkA 12 30 5247 (v := ?_) ?_ (.mk' trivial S0) ?_
        rotate_left
        · intro W hS; go_simp; all_goals with_reducible rfl
        try simp only [sI, sS, sZ]
        refine rkA 13 31 13439 (v := ?_) ?_ (.mk' trivial S0) ?_
        rotate_left
        · intro W hS; go_simp; all_goals with_reducible rfl
        try simp only [sI, sS, sZ]
        refine rk3 7 9 14 13567 13951 29823 (fun K hK => ?_) (fun K hK => ?_) (fun K hK => ?_)
        · go_simp
          refine (W2.out Z).mono ?_
          rintro e w25 ⟨rfl, rfl⟩
          refine hK _ _ (.mk' trivial ((Turns.refl [] Z).mono (by simp))) ?_
          clear hK K
          try simp only [sI, sS, sZ]
          refine rkA 8 26 13823 (v := ?_) ?_ (.mk' trivial ((Turns.refl [] Z).mono (by simp))) ?_
          rotate_left
          · intro W hS; go_simp; all_goals with_reducible rfl
          try simp only [sI, sS, sZ]
          refine rk2 9 14 14335 30207 (fun K hK => ?_) (fun K hK => ?_)
          · go_simp
            have oA := own_empty Z 109 3
            have DA : Turns [] Z (Z.alloc (.cells #[] 109)) := (Turns.refl _ _).alloc _
            have TZ27 : Turns [] Z (Z.alloc (.cells #[] 109)) := (Turns.refl [] Z).trans DA (by simp)
            obtain ⟨gA, hgA⟩ : ∃ g, g = Z.heap.size := ⟨_, rfl⟩
            rw [← hgA] at oA ⊢
            have zz : Z.heap.size ≤ gA := by rw [hgA]; exact (Turns.refl [] Z).size
            have ylt : gA < (Z.alloc (.cells #[] 109)).heap.size := by rw [hgA]; simp
            generalize Z.alloc (.cells #[] 109) = X27 at oA DA TZ27 ylt ⊢
            have BA := Lib.hid (And.intro hgA (And.intro zz ylt))
            clear hgA zz ylt
            refine hK _ _ (.mk' trivial (TZ27.mono (by simp))) ?_
            clear hK K
            try simp only [sI, sS, sZ]
            refine rk2 11 14 16383 30719 (fun K hK => ?_) (fun K hK => ?_)
            · obtain ⟨AB, cB, X29, hrB, oB, tB, lB⟩ := own_app TV (own_more (base := Z.heap.size) (oA) (by have := BA.out; omega)) (TZ27.slice HS.out.1 (Nat.le_refl _) (by simp)) HS.out.2.1 TZ27.size (by omega) (by omega) (by omega) 35
              rw [Nat.zero_add] at hrB oB lB
              rw [List.nil_append] at oB
              have TZ29 : Turns [] Z X29 := TZ27.trans tB (by intro x hx; simp [Value.ownBlock] at hx; exact .inr (by have := BA.out; omega))
              refine wp_append_run (P := Tryz.prog) (w := X27) (.tmp 27) (.tmp 28) (by rfl) (vs := _) (vx := _) (by rfl) (by rfl) (R := fun v w' => Value.slice AB s.v.length cB = v ∧ X29 = w') ⟨_, _, hrB, rfl, rfl⟩ ?_
              rintro _ _ ⟨rfl, rfl⟩
              refine hK _ _ (.mk' trivial (TZ29.mono (by simp))) ?_
              clear hK K
              try simp only [sI, sS, sZ]
              refine rk1 14 32767 (fun K hK => ?_)
              go_simp
              have LC : Sl (X29.alloc (.cells #[.int .i64 2, .int .i64 (k : Int), .string ⟨#[]⟩] 109)) (X29.alloc (.cells #[.int .i64 2, .int .i64 (k : Int), .string ⟨#[]⟩] 109)).heap.size 3 (.slice (some ⟨X29.heap.size, 0, none⟩) 1 1) 1 [.int .i64 2, .int .i64 (k : Int), .string ⟨#[]⟩] := (Sl.new X29 #[.int .i64 2, .int .i64 (k : Int), .string ⟨#[]⟩] 109 1 3 rfl (by simp [maxLen])).more (by simp)
              have DC : Turns [] X29 (X29.alloc (.cells #[.int .i64 2, .int .i64 (k : Int), .string ⟨#[]⟩] 109)) := (Turns.refl _ _).alloc _
              have TZ32 : Turns [] Z (X29.alloc (.cells #[.int .i64 2, .int .i64 (k : Int), .string ⟨#[]⟩] 109)) := TZ29.trans DC (by simp)
              obtain ⟨gC, hgC⟩ : ∃ g, g = X29.heap.size := ⟨_, rfl⟩
              rw [← hgC] at LC ⊢
              have ylt : gC < (X29.alloc (.cells #[.int .i64 2, .int .i64 (k : Int), .string ⟨#[]⟩] 109)).heap.size := by rw [hgC]; simp
              generalize X29.alloc (.cells #[.int .i64 2, .int .i64 (k : Int), .string ⟨#[]⟩] 109) = X32 at LC DC TZ32 ylt ⊢
              have BC := Lib.hid (And.intro hgC ylt)
              clear hgC ylt
              refine hK _ _ (.mk' trivial (TZ32.mono (by simp))) ?_
              clear hK K
              try simp only [sI, sS, sZ]
              refine rk1 15 65535 (fun K hK => ?_)
              obtain ⟨AD, cD, X33, hrD, oD, tD, lD⟩ := own_app TV (own_v0 oB DC) LC (by intro u hu; simp at hu; rcases hu with rfl | rfl | rfl <;> rfl) TZ32.size (by omega) (by omega) (by omega) 35
              have TZ33 : Turns [] Z X33 := TZ32.trans tD (by intro x hx; exact .inr ((own_v0 oB DC).lt x (by simpa using hx)).1)
              refine wp_append_run (P := Tryz.prog) (w := X32) (.tmp 29) (.tmp 32) (by rfl) (vs := _) (vx := _) (by rfl) (by rfl) (R := fun v w' => Value.slice AD (s.v.length + 1) cD = v ∧ X33 = w') ⟨_, _, hrD, rfl, rfl⟩ ?_
              rintro _ _ ⟨rfl, rfl⟩
              have hult : ∀ j, (Value.slice Au k cu).ownBlock = some j → w1.heap.size ≤ j ∧ j < Z.heap.size := fun j hj => HS.out.2.2.1.lt j hj
              have hz1 := HS.out.2.2.2.size
              have d33 := (HS.out.2.2.1.keep ChgR.lasts TZ33 (by simp) (by simp)).mono ChgR.lasts (S' := SX w1.heap.size X33.heap.size [.slice Au k cu]) (fun j hj hj' => ⟨hj'.1, hj, hj'.2.2⟩) (Nat.le_refl _)
              have e1 : (stC s k).row.length = s.v.length + 1 := by simp [stC]
              have e2 : valCells (stC s k).row = valCells (s.v.map gval) ++ [.int .i64 2, .int .i64 (k : Int), .string ⟨#[]⟩] := by simp [stC, valCells, Val.cells]
              have sl3 : SlS X33 (SX w1.heap.size X33.heap.size [.slice Au k cu]) 3 (.slice AD (s.v.length + 1) cD) (stC s k).row.length (valCells (stC s k).row) := by
                rw [e1, e2]
                refine SlS.of_own oD (fun j hj => ?_)
                have h1 := oD.lt j hj
                refine ⟨by omega, h1.2, fun v hv e => ?_⟩
                simp only [List.mem_cons, List.not_mem_nil, or_false] at hv
                subst hv
                have := hult j e
                omega
              have htl : ((stCs s).take k).length = k := by rw [List.length_take, stCs_len, ← HF.out.2.1]; omega
              obtain ⟨A9, c9, X36, hr9, d9, t9, l9⟩ := d33.push' ChgR.lasts TChg (cs := [.string s.name, .int .i64 o2, .slice AD (s.v.length + 1) cD]) (x := stC s k) ⟨_, by rw [HO.out]; rfl, sl3⟩ rfl (by intro u hu; simp at hu; rcases hu with rfl | rfl | rfl <;> rfl) (by have := TZ33.size; omega) (by rw [htl]; omega) (fun j hj => SX_not (v := .slice Au k cu) (by simp) hj) 43 (by omega)
              rw [htl] at hr9 d9 l9
              rw [← stCs_step s k (by rw [← HF.out.2.1]; exact hlt)] at d9
              have D9 := Lib.hid (And.intro d9 (And.intro t9 (And.intro l9 (And.intro hult (And.intro hz1 TZ33)))))
              clear d9 t9 l9 hult hz1 d33 e1 e2 sl3 htl
              refine hK _ _ (.mk' trivial (TZ33.mono (by simp))) ?_
              clear hK K
              try simp only [sI, sS, sZ]
              refine rkA 16 34 131071 (v := ?_) ?_ (.mk' trivial (TZ33.mono (by simp))) ?_
              rotate_left
              · intro W hS; go_simp; all_goals with_reducible rfl
              try simp only [sI, sS, sZ]
              refine rk1 17 262143 (fun K hK => ?_)
              go_simp
              refine hK _ _ (.mk' trivial ((TZ33.alloc _).mono (by simp))) ?_
              clear hK K
              try simp only [sI, sS, sZ]
              refine rk1 18 524287 (fun K hK => ?_)
              refine wp_append_run (P := Tryz.prog) (w := X33.alloc (.cells #[.string s.name, .int .i64 o2, .slice AD (s.v.length + 1) cD] 67)) (.tmp 18) (.tmp 35) (by rfl) (vs := _) (vx := _) (by rfl) (by rfl) (R := fun v w' => Value.slice A9 (k + 1) c9 = v ∧ X36 = w') ⟨_, _, hr9, rfl, rfl⟩ ?_
              rintro _ _ ⟨rfl, rfl⟩
              refine hK _ _ (.mk' trivial ((TZ33.mono (by simp)).trans D9.out.2.1 (fun x hx => .inl hx))) ?_
              clear hK K
              try simp only [sI, sS, sZ]
              refine rk1 19 1048575 (fun K hK => ?_)
              go_simp
              refine hK _ _ (.p trivial) ?_
              clear hK K
              try simp only [sI, sS, sZ]
              refine rkZ ?_
              go_wp2_with fail
              go_meet
              obtain ⟨d9, t9, l9, hult, hz1, TZ33⟩ := D9.out
              have hs9 := t9.size
              have h33 := TZ33.size
              exact ⟨A9, c9, rfl, d9.mono ChgR.lasts (fun j hj hj' => ⟨hj'.1, hj, fun v hv e => by
                simp only [List.mem_cons, List.not_mem_nil, or_false] at hv
                subst hv
                rcases l9 j e with h | h
                · exact hj'.2.2 _ (by simp) h
                · have := hj'.2.1; omega⟩) (Nat.le_refl _), (HS.out.2.2.2.trans TZ33 (by simp)).trans t9 (fun x hx => .inr (hult x (by simpa using hx)).1)⟩
            · go_simp
              have LC : Sl (X27.alloc (.cells #[.int .i64 2, .int .i64 (k : Int), .string ⟨#[]⟩] 109)) (X27.alloc (.cells #[.int .i64 2, .int .i64 (k : Int), .string ⟨#[]⟩] 109)).heap.size 3 (.slice (some ⟨X27.heap.size, 0, none⟩) 1 1) 1 [.int .i64 2, .int .i64 (k : Int), .string ⟨#[]⟩] := (Sl.new X27 #[.int .i64 2, .int .i64 (k : Int), .string ⟨#[]⟩] 109 1 3 rfl (by simp [maxLen])).more (by simp)
              have DC : Turns [] X27 (X27.alloc (.cells #[.int .i64 2, .int .i64 (k : Int), .string ⟨#[]⟩] 109)) := (Turns.refl _ _).alloc _
              have TZ32 : Turns [] Z (X27.alloc (.cells #[.int .i64 2, .int .i64 (k : Int), .string ⟨#[]⟩] 109)) := TZ27.trans DC (by simp)
              obtain ⟨gC, hgC⟩ : ∃ g, g = X27.heap.size := ⟨_, rfl⟩
              rw [← hgC] at LC ⊢
              have ylt : gC < (X27.alloc (.cells #[.int .i64 2, .int .i64 (k : Int), .string ⟨#[]⟩] 109)).heap.size := by rw [hgC]; simp
              generalize X27.alloc (.cells #[.int .i64 2, .int .i64 (k : Int), .string ⟨#[]⟩] 109) = X32 at LC DC TZ32 ylt ⊢
              have BC := Lib.hid (And.intro hgC ylt)
              clear hgC ylt
              refine hK _ _ (.mk' trivial (TZ32.mono (by simp))) ?_
              clear hK K
              try simp only [sI, sS, sZ]
              refine rk1 11 32767 (fun K hK => ?_)
              obtain ⟨AB, cB, X29, hrB, oB, tB, lB⟩ := own_app TV (own_more (base := Z.heap.size) (own_v0 oA DC) (by have := BA.out; omega)) (TZ32.slice HS.out.1 (Nat.le_refl _) (by simp)) HS.out.2.1 TZ32.size (by omega) (by omega) (by omega) 35
              rw [Nat.zero_add] at hrB oB lB
              rw [List.nil_append] at oB
              have TZ29 : Turns [] Z X29 := TZ32.trans tB (by intro x hx; simp [Value.ownBlock] at hx; exact .inr (by have := BA.out; omega))
              refine wp_append_run (P := Tryz.prog) (w := X32) (.tmp 27) (.tmp 28) (by rfl) (vs := _) (vx := _) (by rfl) (by rfl) (R := fun v w' => Value.slice AB s.v.length cB = v ∧ X29 = w') ⟨_, _, hrB, rfl, rfl⟩ ?_
              rintro _ _ ⟨rfl, rfl⟩
              refine hK _ _ (.mk' trivial (TZ29.mono (by simp))) ?_
              clear hK K
              try simp only [sI, sS, sZ]
              refine rk1 15 65535 (fun K hK => ?_)
              obtain ⟨AD, cD, X33, hrD, oD, tD, lD⟩ := own_app TV (oB) (tB.slice LC (by first | exact Nat.le_refl _ | exact DA.size) (by intro x hx e; simp [Value.ownBlock] at hx e; have := BA.out; have := BC.out; omega)) (by intro u hu; simp at hu; rcases hu with rfl | rfl | rfl <;> rfl) TZ29.size (by omega) (by omega) (by omega) 35
              have TZ33 : Turns [] Z X33 := TZ29.trans tD (by intro x hx; exact .inr ((oB).lt x (by simpa using hx)).1)
              refine wp_append_run (P := Tryz.prog) (w := X29) (.tmp 29) (.tmp 32) (by rfl) (vs := _) (vx := _) (by rfl) (by rfl) (R := fun v w' => Value.slice AD (s.v.length + 1) cD = v ∧ X33 = w') ⟨_, _, hrD, rfl, rfl⟩ ?_
              rintro _ _ ⟨rfl, rfl⟩
              have hult : ∀ j, (Value.slice Au k cu).ownBlock = some j → w1.heap.size ≤ j ∧ j < Z.heap.size := fun j hj => HS.out.2.2.1.lt j hj
              have hz1 := HS.out.2.2.2.size
              have d33 := (HS.out.2.2.1.keep ChgR.lasts TZ33 (by simp) (by simp)).mono ChgR.lasts (S' := SX w1.heap.size X33.heap.size [.slice Au k cu]) (fun j hj hj' => ⟨hj'.1, hj, hj'.2.2⟩) (Nat.le_refl _)
              have e1 : (stC s k).row.length = s.v.length + 1 := by simp [stC]
              have e2 : valCells (stC s k).row = valCells (s.v.map gval) ++ [.int .i64 2, .int .i64 (k : Int), .string ⟨#[]⟩] := by simp [stC, valCells, Val.cells]
              have sl3 : SlS X33 (SX w1.heap.size X33.heap.size [.slice Au k cu]) 3 (.slice AD (s.v.length + 1) cD) (stC s k).row.length (valCells (stC s k).row) := by
                rw [e1, e2]
                refine SlS.of_own oD (fun j hj => ?_)
                have h1 := oD.lt j hj
                refine ⟨by omega, h1.2, fun v hv e => ?_⟩
                simp only [List.mem_cons, List.not_mem_nil, or_false] at hv
                subst hv
                have := hult j e
                omega
              have htl : ((stCs s).take k).length = k := by rw [List.length_take, stCs_len, ← HF.out.2.1]; omega
              obtain ⟨A9, c9, X36, hr9, d9, t9, l9⟩ := d33.push' ChgR.lasts TChg (cs := [.string s.name, .int .i64 o2, .slice AD (s.v.length + 1) cD]) (x := stC s k) ⟨_, by rw [HO.out]; rfl, sl3⟩ rfl (by intro u hu; simp at hu; rcases hu with rfl | rfl | rfl <;> rfl) (by have := TZ33.size; omega) (by rw [htl]; omega) (fun j hj => SX_not (v := .slice Au k cu) (by simp) hj) 43 (by omega)
              rw [htl] at hr9 d9 l9
              rw [← stCs_step s k (by rw [← HF.out.2.1]; exact hlt)] at d9
              have D9 := Lib.hid (And.intro d9 (And.intro t9 (And.intro l9 (And.intro hult (And.intro hz1 TZ33)))))
              clear d9 t9 l9 hult hz1 d33 e1 e2 sl3 htl
              refine hK _ _ (.mk' trivial (TZ33.mono (by simp))) ?_
              clear hK K
              try simp only [sI, sS, sZ]
              refine rkA 16 34 131071 (v := ?_) ?_ (.mk' trivial (TZ33.mono (by simp))) ?_
              rotate_left
              · intro W hS; go_simp; all_goals with_reducible rfl
              try simp only [sI, sS, sZ]
              refine rk1 17 262143 (fun K hK => ?_)
              go_simp
              refine hK _ _ (.mk' trivial ((TZ33.alloc _).mono (by simp))) ?_
              clear hK K
              try simp only [sI, sS, sZ]
              refine rk1 18 524287 (fun K hK => ?_)
              refine wp_append_run (P := Tryz.prog) (w := X33.alloc (.cells #[.string s.name, .int .i64 o2, .slice AD (s.v.length + 1) cD] 67)) (.tmp 18) (.tmp 35) (by rfl) (vs := _) (vx := _) (by rfl) (by rfl) (R := fun v w' => Value.slice A9 (k + 1) c9 = v ∧ X36 = w') ⟨_, _, hr9, rfl, rfl⟩ ?_
              rintro _ _ ⟨rfl, rfl⟩
              refine hK _ _ (.mk' trivial ((TZ33.mono (by simp)).trans D9.out.2.1 (fun x hx => .inl hx))) ?_
              clear hK K
              try simp only [sI, sS, sZ]
              refine rk1 19 1048575 (fun K hK => ?_)
              go_simp
              refine hK _ _ (.p trivial) ?_
              clear hK K
              try simp only [sI, sS, sZ]
              refine rkZ ?_
              go_wp2_with fail
              go_meet
              obtain ⟨d9, t9, l9, hult, hz1, TZ33⟩ := D9.out
              have hs9 := t9.size
              have h33 := TZ33.size
              exact ⟨A9, c9, rfl, d9.mono ChgR.lasts (fun j hj hj' => ⟨hj'.1, hj, fun v hv e => by
                simp only [List.mem_cons, List.not_mem_nil, or_false] at hv
                subst hv
                rcases l9 j e with h | h
                · exact hj'.2.2 _ (by simp) h
                · have := hj'.2.1; omega⟩) (Nat.le_refl _), (HS.out.2.2.2.trans TZ33 (by simp)).trans t9 (fun x hx => .inr (hult x (by simpa using hx)).1)⟩
          · go_simp
            have LC : Sl (Z.alloc (.cells #[.int .i64 2, .int .i64 (k : Int), .string ⟨#[]⟩] 109)) (Z.alloc (.cells #[.int .i64 2, .int .i64 (k : Int), .string ⟨#[]⟩] 109)).heap.size 3 (.slice (some ⟨Z.heap.size, 0, none⟩) 1 1) 1 [.int .i64 2, .int .i64 (k : Int), .string ⟨#[]⟩] := (Sl.new Z #[.int .i64 2, .int .i64 (k : Int), .string ⟨#[]⟩] 109 1 3 rfl (by simp [maxLen])).more (by simp)
            have DC : Turns [] Z (Z.alloc (.cells #[.int .i64 2, .int .i64 (k : Int), .string ⟨#[]⟩] 109)) := (Turns.refl _ _).alloc _
            have TZ32 : Turns [] Z (Z.alloc (.cells #[.int .i64 2, .int .i64 (k : Int), .string ⟨#[]⟩] 109)) := (Turns.refl [] Z).trans DC (by simp)
            obtain ⟨gC, hgC⟩ : ∃ g, g = Z.heap.size := ⟨_, rfl⟩
            rw [← hgC] at LC ⊢
            have ylt : gC < (Z.alloc (.cells #[.int .i64 2, .int .i64 (k : Int), .string ⟨#[]⟩] 109)).heap.size := by rw [hgC]; simp
            generalize Z.alloc (.cells #[.int .i64 2, .int .i64 (k : Int), .string ⟨#[]⟩] 109) = X32 at LC DC TZ32 ylt ⊢
            have BC := Lib.hid (And.intro hgC ylt)
            clear hgC ylt
            refine hK _ _ (.mk' trivial (TZ32.mono (by simp))) ?_
            clear hK K
            try simp only [sI, sS, sZ]
            refine rk1 9 30719 (fun K hK => ?_)
            go_simp
            have oA := own_empty X32 109 3
            have DA : Turns [] X32 (X32.alloc (.cells #[] 109)) := (Turns.refl _ _).alloc _
            have TZ27 : Turns [] Z (X32.alloc (.cells #[] 109)) := TZ32.trans DA (by simp)
            obtain ⟨gA, hgA⟩ : ∃ g, g = X32.heap.size := ⟨_, rfl⟩
            rw [← hgA] at oA ⊢
            have zz : Z.heap.size ≤ gA := by rw [hgA]; exact TZ32.size
            have ylt : gA < (X32.alloc (.cells #[] 109)).heap.size := by rw [hgA]; simp
            generalize X32.alloc (.cells #[] 109) = X27 at oA DA TZ27 ylt ⊢
            have BA := Lib.hid (And.intro hgA (And.intro zz ylt))
            clear hgA zz ylt
            refine hK _ _ (.mk' trivial (TZ27.mono (by simp))) ?_
            clear hK K
            try simp only [sI, sS, sZ]
            refine rk1 11 32767 (fun K hK => ?_)
            obtain ⟨AB, cB, X29, hrB, oB, tB, lB⟩ := own_app TV (own_more (base := Z.heap.size) (oA) (by have := BA.out; omega)) (TZ27.slice HS.out.1 (Nat.le_refl _) (by simp)) HS.out.2.1 TZ27.size (by omega) (by omega) (by omega) 35
            rw [Nat.zero_add] at hrB oB lB
            rw [List.nil_append] at oB
            have TZ29 : Turns [] Z X29 := TZ27.trans tB (by intro x hx; simp [Value.ownBlock] at hx; exact .inr (by have := BA.out; omega))
            refine wp_append_run (P := Tryz.prog) (w := X27) (.tmp 27) (.tmp 28) (by rfl) (vs := _) (vx := _) (by rfl) (by rfl) (R := fun v w' => Value.slice AB s.v.length cB = v ∧ X29 = w') ⟨_, _, hrB, rfl, rfl⟩ ?_
            rintro _ _ ⟨rfl, rfl⟩
            refine hK _ _ (.mk' trivial (TZ29.mono (by simp))) ?_
            clear hK K
            try simp only [sI, sS, sZ]
            refine rk1 15 65535 (fun K hK => ?_)
            obtain ⟨AD, cD, X33, hrD, oD, tD, lD⟩ := own_app TV (oB) (tB.slice (DA.slice LC (Nat.le_refl _) (by simp)) (by first | exact Nat.le_refl _ | exact DA.size) (by intro x hx e; simp [Value.ownBlock] at hx e; have := BA.out; have := BC.out; omega)) (by intro u hu; simp at hu; rcases hu with rfl | rfl | rfl <;> rfl) TZ29.size (by omega) (by omega) (by omega) 35
            have TZ33 : Turns [] Z X33 := TZ29.trans tD (by intro x hx; exact .inr ((oB).lt x (by simpa using hx)).1)
            refine wp_append_run (P := Tryz.prog) (w := X29) (.tmp 29) (.tmp 32) (by rfl) (vs := _) (vx := _) (by rfl) (by rfl) (R := fun v w' => Value.slice AD (s.v.length + 1) cD = v ∧ X33 = w') ⟨_, _, hrD, rfl, rfl⟩ ?_
            rintro _ _ ⟨rfl, rfl⟩
            have hult : ∀ j, (Value.slice Au k cu).ownBlock = some j → w1.heap.size ≤ j ∧ j < Z.heap.size := fun j hj => HS.out.2.2.1.lt j hj
            have hz1 := HS.out.2.2.2.size
            have d33 := (HS.out.2.2.1.keep ChgR.lasts TZ33 (by simp) (by simp)).mono ChgR.lasts (S' := SX w1.heap.size X33.heap.size [.slice Au k cu]) (fun j hj hj' => ⟨hj'.1, hj, hj'.2.2⟩) (Nat.le_refl _)
            have e1 : (stC s k).row.length = s.v.length + 1 := by simp [stC]
            have e2 : valCells (stC s k).row = valCells (s.v.map gval) ++ [.int .i64 2, .int .i64 (k : Int), .string ⟨#[]⟩] := by simp [stC, valCells, Val.cells]
            have sl3 : SlS X33 (SX w1.heap.size X33.heap.size [.slice Au k cu]) 3 (.slice AD (s.v.length + 1) cD) (stC s k).row.length (valCells (stC s k).row) := by
              rw [e1, e2]
              refine SlS.of_own oD (fun j hj => ?_)
              have h1 := oD.lt j hj
              refine ⟨by omega, h1.2, fun v hv e => ?_⟩
              simp only [List.mem_cons, List.not_mem_nil, or_false] at hv
              subst hv
              have := hult j e
              omega
            have htl : ((stCs s).take k).length = k := by rw [List.length_take, stCs_len, ← HF.out.2.1]; omega
            obtain ⟨A9, c9, X36, hr9, d9, t9, l9⟩ := d33.push' ChgR.lasts TChg (cs := [.string s.name, .int .i64 o2, .slice AD (s.v.length + 1) cD]) (x := stC s k) ⟨_, by rw [HO.out]; rfl, sl3⟩ rfl (by intro u hu; simp at hu; rcases hu with rfl | rfl | rfl <;> rfl) (by have := TZ33.size; omega) (by rw [htl]; omega) (fun j hj => SX_not (v := .slice Au k cu) (by simp) hj) 43 (by omega)
            rw [htl] at hr9 d9 l9
            rw [← stCs_step s k (by rw [← HF.out.2.1]; exact hlt)] at d9
            have D9 := Lib.hid (And.intro d9 (And.intro t9 (And.intro l9 (And.intro hult (And.intro hz1 TZ33)))))
            clear d9 t9 l9 hult hz1 d33 e1 e2 sl3 htl
            refine hK _ _ (.mk' trivial (TZ33.mono (by simp))) ?_
            clear hK K
            try simp only [sI, sS, sZ]
            refine rkA 16 34 131071 (v := ?_) ?_ (.mk' trivial (TZ33.mono (by simp))) ?_
            rotate_left
            · intro W hS; go_simp; all_goals with_reducible rfl
            try simp only [sI, sS, sZ]
            refine rk1 17 262143 (fun K hK => ?_)
            go_simp
            refine hK _ _ (.mk' trivial ((TZ33.alloc _).mono (by simp))) ?_
            clear hK K
            try simp only [sI, sS, sZ]
            refine rk1 18 524287 (fun K hK => ?_)
            refine wp_append_run (P := Tryz.prog) (w := X33.alloc (.cells #[.string s.name, .int .i64 o2, .slice AD (s.v.length + 1) cD] 67)) (.tmp 18) (.tmp 35) (by rfl) (vs := _) (vx := _) (by rfl) (by rfl) (R := fun v w' => Value.slice A9 (k + 1) c9 = v ∧ X36 = w') ⟨_, _, hr9, rfl, rfl⟩ ?_
            rintro _ _ ⟨rfl, rfl⟩
            refine hK _ _ (.mk' trivial ((TZ33.mono (by simp)).trans D9.out.2.1 (fun x hx => .inl hx))) ?_
            clear hK K
            try simp only [sI, sS, sZ]
            refine rk1 19 1048575 (fun K hK => ?_)
            go_simp
            refine hK _ _ (.p trivial) ?_
            clear hK K
            try simp only [sI, sS, sZ]
            refine rkZ ?_
            go_wp2_with fail
            go_meet
            obtain ⟨d9, t9, l9, hult, hz1, TZ33⟩ := D9.out
            have hs9 := t9.size
            have h33 := TZ33.size
            exact ⟨A9, c9, rfl, d9.mono ChgR.lasts (fun j hj hj' => ⟨hj'.1, hj, fun v hv e => by
              simp only [List.mem_cons, List.not_mem_nil, or_false] at hv
              subst hv
              rcases l9 j e with h | h
              · exact hj'.2.2 _ (by simp) h
              · have := hj'.2.1; omega⟩) (Nat.le_refl _), (HS.out.2.2.2.trans TZ33 (by simp)).trans t9 (fun x hx => .inr (hult x (by simpa using hx)).1)⟩
        · go_simp
          have oA := own_empty Z 109 3
          have DA : Turns [] Z (Z.alloc (.cells #[] 109)) := (Turns.refl _ _).alloc _
          have TZ27 : Turns [] Z (Z.alloc (.cells #[] 109)) := (Turns.refl [] Z).trans DA (by simp)
          obtain ⟨gA, hgA⟩ : ∃ g, g = Z.heap.size := ⟨_, rfl⟩
          rw [← hgA] at oA ⊢
          have zz : Z.heap.size ≤ gA := by rw [hgA]; exact (Turns.refl [] Z).size
          have ylt : gA < (Z.alloc (.cells #[] 109)).heap.size := by rw [hgA]; simp
          generalize Z.alloc (.cells #[] 109) = X27 at oA DA TZ27 ylt ⊢
          have BA := Lib.hid (And.intro hgA (And.intro zz ylt))
          clear hgA zz ylt
          refine hK _ _ (.mk' trivial (TZ27.mono (by simp))) ?_
          clear hK K
          try simp only [sI, sS, sZ]
          refine rk2 7 14 14079 30335 (fun K hK => ?_) (fun K hK => ?_)
          · go_simp
            refine (W2.out X27).mono ?_
            rintro e w25 ⟨rfl, rfl⟩
            refine hK _ _ (.mk' trivial (TZ27.mono (by simp))) ?_
            clear hK K
            try simp only [sI, sS, sZ]
            refine rkA 8 26 14335 (v := ?_) ?_ (.mk' trivial (TZ27.mono (by simp))) ?_
            rotate_left
            · intro W hS; go_simp; all_goals with_reducible rfl
            try simp only [sI, sS, sZ]
            refine rk2 11 14 16383 30719 (fun K hK => ?_) (fun K hK => ?_)
            · obtain ⟨AB, cB, X29, hrB, oB, tB, lB⟩ := own_app TV (own_more (base := Z.heap.size) (oA) (by have := BA.out; omega)) (TZ27.slice HS.out.1 (Nat.le_refl _) (by simp)) HS.out.2.1 TZ27.size (by omega) (by omega) (by omega) 35
              rw [Nat.zero_add] at hrB oB lB
              rw [List.nil_append] at oB
              have TZ29 : Turns [] Z X29 := TZ27.trans tB (by intro x hx; simp [Value.ownBlock] at hx; exact .inr (by have := BA.out; omega))
              refine wp_append_run (P := Tryz.prog) (w := X27) (.tmp 27) (.tmp 28) (by rfl) (vs := _) (vx := _) (by rfl) (by rfl) (R := fun v w' => Value.slice AB s.v.length cB = v ∧ X29 = w') ⟨_, _, hrB, rfl, rfl⟩ ?_
              rintro _ _ ⟨rfl, rfl⟩
              refine hK _ _ (.mk' trivial (TZ29.mono (by simp))) ?_
              clear hK K
              try simp only [sI, sS, sZ]
              refine rk1 14 32767 (fun K hK => ?_)
              go_simp
              have LC : Sl (X29.alloc (.cells #[.int .i64 2, .int .i64 (k : Int), .string ⟨#[]⟩] 109)) (X29.alloc (.cells #[.int .i64 2, .int .i64 (k : Int), .string ⟨#[]⟩] 109)).heap.size 3 (.slice (some ⟨X29.heap.size, 0, none⟩) 1 1) 1 [.int .i64 2, .int .i64 (k : Int), .string ⟨#[]⟩] := (Sl.new X29 #[.int .i64 2, .int .i64 (k : Int), .string ⟨#[]⟩] 109 1 3 rfl (by simp [maxLen])).more (by simp)
              have DC : Turns [] X29 (X29.alloc (.cells #[.int .i64 2, .int .i64 (k : Int), .string ⟨#[]⟩] 109)) := (Turns.refl _ _).alloc _
              have TZ32 : Turns [] Z (X29.alloc (.cells #[.int .i64 2, .int .i64 (k : Int), .string ⟨#[]⟩] 109)) := TZ29.trans DC (by simp)
              obtain ⟨gC, hgC⟩ : ∃ g, g = X29.heap.size := ⟨_, rfl⟩
              rw [← hgC] at LC ⊢
              have ylt : gC < (X29.alloc (.cells #[.int .i64 2, .int .i64 (k : Int), .string ⟨#[]⟩] 109)).heap.size := by rw [hgC]; simp
              generalize X29.alloc (.cells #[.int .i64 2, .int .i64 (k : Int), .string ⟨#[]⟩] 109) = X32 at LC DC TZ32 ylt ⊢
              have BC := Lib.hid (And.intro hgC ylt)
              clear hgC ylt
              refine hK _ _ (.mk' trivial (TZ32.mono (by simp))) ?_
              clear hK K
              try simp only [sI, sS, sZ]
              refine rk1 15 65535 (fun K hK => ?_)
              obtain ⟨AD, cD, X33, hrD, oD, tD, lD⟩ := own_app TV (own_v0 oB DC) LC (by intro u hu; simp at hu; rcases hu with rfl | rfl | rfl <;> rfl) TZ32.size (by omega) (by omega) (by omega) 35
              have TZ33 : Turns [] Z X33 := TZ32.trans tD (by intro x hx; exact .inr ((own_v0 oB DC).lt x (by simpa using hx)).1)
              refine wp_append_run (P := Tryz.prog) (w := X32) (.tmp 29) (.tmp 32) (by rfl) (vs := _) (vx := _) (by rfl) (by rfl) (R := fun v w' => Value.slice AD (s.v.length + 1) cD = v ∧ X33 = w') ⟨_, _, hrD, rfl, rfl⟩ ?_
              rintro _ _ ⟨rfl, rfl⟩
              have hult : ∀ j, (Value.slice Au k cu).ownBlock = some j → w1.heap.size ≤ j ∧ j < Z.heap.size := fun j hj => HS.out.2.2.1.lt j hj
              have hz1 := HS.out.2.2.2.size
              have d33 := (HS.out.2.2.1.keep ChgR.lasts TZ33 (by simp) (by simp)).mono ChgR.lasts (S' := SX w1.heap.size X33.heap.size [.slice Au k cu]) (fun j hj hj' => ⟨hj'.1, hj, hj'.2.2⟩) (Nat.le_refl _)
              have e1 : (stC s k).row.length = s.v.length + 1 := by simp [stC]
              have e2 : valCells (stC s k).row = valCells (s.v.map gval) ++ [.int .i64 2, .int .i64 (k : Int), .string ⟨#[]⟩] := by simp [stC, valCells, Val.cells]
              have sl3 : SlS X33 (SX w1.heap.size X33.heap.size [.slice Au k cu]) 3 (.slice AD (s.v.length + 1) cD) (stC s k).row.length (valCells (stC s k).row) := by
                rw [e1, e2]
                refine SlS.of_own oD (fun j hj => ?_)
                have h1 := oD.lt j hj
                refine ⟨by omega, h1.2, fun v hv e => ?_⟩
                simp only [List.mem_cons, List.not_mem_nil, or_false] at hv
                subst hv
                have := hult j e
                omega
              have htl : ((stCs s).take k).length = k := by rw [List.length_take, stCs_len, ← HF.out.2.1]; omega
              obtain ⟨A9, c9, X36, hr9, d9, t9, l9⟩ := d33.push' ChgR.lasts TChg (cs := [.string s.name, .int .i64 o2, .slice AD (s.v.length + 1) cD]) (x := stC s k) ⟨_, by rw [HO.out]; rfl, sl3⟩ rfl (by intro u hu; simp at hu; rcases hu with rfl | rfl | rfl <;> rfl) (by have := TZ33.size; omega) (by rw [htl]; omega) (fun j hj => SX_not (v := .slice Au k cu) (by simp) hj) 43 (by omega)
              rw [htl] at hr9 d9 l9
              rw [← stCs_step s k (by rw [← HF.out.2.1]; exact hlt)] at d9
              have D9 := Lib.hid (And.intro d9 (And.intro t9 (And.intro l9 (And.intro hult (And.intro hz1 TZ33)))))
              clear d9 t9 l9 hult hz1 d33 e1 e2 sl3 htl
              refine hK _ _ (.mk' trivial (TZ33.mono (by simp))) ?_
              clear hK K
              try simp only [sI, sS, sZ]
              refine rkA 16 34 131071 (v := ?_) ?_ (.mk' trivial (TZ33.mono (by simp))) ?_
              rotate_left
              · intro W hS; go_simp; all_goals with_reducible rfl
              try simp only [sI, sS, sZ]
              refine rk1 17 262143 (fun K hK => ?_)
              go_simp
              refine hK _ _ (.mk' trivial ((TZ33.alloc _).mono (by simp))) ?_
              clear hK K
              try simp only [sI, sS, sZ]
              refine rk1 18 524287 (fun K hK => ?_)
              refine wp_append_run (P := Tryz.prog) (w := X33.alloc (.cells #[.string s.name, .int .i64 o2, .slice AD (s.v.length + 1) cD] 67)) (.tmp 18) (.tmp 35) (by rfl) (vs := _) (vx := _) (by rfl) (by rfl) (R := fun v w' => Value.slice A9 (k + 1) c9 = v ∧ X36 = w') ⟨_, _, hr9, rfl, rfl⟩ ?_
              rintro _ _ ⟨rfl, rfl⟩
              refine hK _ _ (.mk' trivial ((TZ33.mono (by simp)).trans D9.out.2.1 (fun x hx => .inl hx))) ?_
              clear hK K
              try simp only [sI, sS, sZ]
              refine rk1 19 1048575 (fun K hK => ?_)
              go_simp
              refine hK _ _ (.p trivial) ?_
              clear hK K
              try simp only [sI, sS, sZ]
              refine rkZ ?_
              go_wp2_with fail
              go_meet
              obtain ⟨d9, t9, l9, hult, hz1, TZ33⟩ := D9.out
              have hs9 := t9.size
              have h33 := TZ33.size
              exact ⟨A9, c9, rfl, d9.mono ChgR.lasts (fun j hj hj' => ⟨hj'.1, hj, fun v hv e => by
                simp only [List.mem_cons, List.not_mem_nil, or_false] at hv
                subst hv
                rcases l9 j e with h | h
                · exact hj'.2.2 _ (by simp) h
                · have := hj'.2.1; omega⟩) (Nat.le_refl _), (HS.out.2.2.2.trans TZ33 (by simp)).trans t9 (fun x hx => .inr (hult x (by simpa using hx)).1)⟩
            · go_simp
              have LC : Sl (X27.alloc (.cells #[.int .i64 2, .int .i64 (k : Int), .string ⟨#[]⟩] 109)) (X27.alloc (.cells #[.int .i64 2, .int .i64 (k : Int), .string ⟨#[]⟩] 109)).heap.size 3 (.slice (some ⟨X27.heap.size, 0, none⟩) 1 1) 1 [.int .i64 2, .int .i64 (k : Int), .string ⟨#[]⟩] := (Sl.new X27 #[.int .i64 2, .int .i64 (k : Int), .string ⟨#[]⟩] 109 1 3 rfl (by simp [maxLen])).more (by simp)
              have DC : Turns [] X27 (X27.alloc (.cells #[.int .i64 2, .int .i64 (k : Int), .string ⟨#[]⟩] 109)) := (Turns.refl _ _).alloc _
              have TZ32 : Turns [] Z (X27.alloc (.cells #[.int .i64 2, .int .i64 (k : Int), .string ⟨#[]⟩] 109)) := TZ27.trans DC (by simp)
              obtain ⟨gC, hgC⟩ : ∃ g, g = X27.heap.size := ⟨_, rfl⟩
              rw [← hgC] at LC ⊢
              have ylt : gC < (X27.alloc (.cells #[.int .i64 2, .int .i64 (k : Int), .string ⟨#[]⟩] 109)).heap.size := by rw [hgC]; simp
              generalize X27.alloc (.cells #[.int .i64 2, .int .i64 (k : Int), .string ⟨#[]⟩] 109) = X32 at LC DC TZ32 ylt ⊢
              have BC := Lib.hid (And.intro hgC ylt)
              clear hgC ylt
              refine hK _ _ (.mk' trivial (TZ32.mono (by simp))) ?_
              clear hK K
              try simp only [sI, sS, sZ]
              refine rk1 11 32767 (fun K hK => ?_)
              obtain ⟨AB, cB, X29, hrB, oB, tB, lB⟩ := own_app TV (own_more (base := Z.heap.size) (own_v0 oA DC) (by have := BA.out; omega)) (TZ32.slice HS.out.1 (Nat.le_refl _) (by simp)) HS.out.2.1 TZ32.size (by omega) (by omega) (by omega) 35
              rw [Nat.zero_add] at hrB oB lB
              rw [List.nil_append] at oB
              have TZ29 : Turns [] Z X29 := TZ32.trans tB (by intro x hx; simp [Value.ownBlock] at hx; exact .inr (by have := BA.out; omega))
              refine wp_append_run (P := Tryz.prog) (w := X32) (.tmp 27) (.tmp 28) (by rfl) (vs := _) (vx := _) (by rfl) (by rfl) (R := fun v w' => Value.slice AB s.v.length cB = v ∧ X29 = w') ⟨_, _, hrB, rfl, rfl⟩ ?_
              rintro _ _ ⟨rfl, rfl⟩
              refine hK _ _ (.mk' trivial (TZ29.mono (by simp))) ?_
              clear hK K
              try simp only [sI, sS, sZ]
              refine rk1 15 65535 (fun K hK => ?_)
              obtain ⟨AD, cD, X33, hrD, oD, tD, lD⟩ := own_app TV (oB) (tB.slice LC (by first | exact Nat.le_refl _ | exact DA.size) (by intro x hx e; simp [Value.ownBlock] at hx e; have := BA.out; have := BC.out; omega)) (by intro u hu; simp at hu; rcases hu with rfl | rfl | rfl <;> rfl) TZ29.size (by omega) (by omega) (by omega) 35
              have TZ33 : Turns [] Z X33 := TZ29.trans tD (by intro x hx; exact .inr ((oB).lt x (by simpa using hx)).1)
              refine wp_append_run (P := Tryz.prog) (w := X29) (.tmp 29) (.tmp 32) (by rfl) (vs := _) (vx := _) (by rfl) (by rfl) (R := fun v w' => Value.slice AD (s.v.length + 1) cD = v ∧ X33 = w') ⟨_, _, hrD, rfl, rfl⟩ ?_
              rintro _ _ ⟨rfl, rfl⟩
              have hult : ∀ j, (Value.slice Au k cu).ownBlock = some j → w1.heap.size ≤ j ∧ j < Z.heap.size := fun j hj => HS.out.2.2.1.lt j hj
              have hz1 := HS.out.2.2.2.size
              have d33 := (HS.out.2.2.1.keep ChgR.lasts TZ33 (by simp) (by simp)).mono ChgR.lasts (S' := SX w1.heap.size X33.heap.size [.slice Au k cu]) (fun j hj hj' => ⟨hj'.1, hj, hj'.2.2⟩) (Nat.le_refl _)
              have e1 : (stC s k).row.length = s.v.length + 1 := by simp [stC]
              have e2 : valCells (stC s k).row = valCells (s.v.map gval) ++ [.int .i64 2, .int .i64 (k : Int), .string ⟨#[]⟩] := by simp [stC, valCells, Val.cells]
              have sl3 : SlS X33 (SX w1.heap.size X33.heap.size [.slice Au k cu]) 3 (.slice AD (s.v.length + 1) cD) (stC s k).row.length (valCells (stC s k).row) := by
                rw [e1, e2]
                refine SlS.of_own oD (fun j hj => ?_)
                have h1 := oD.lt j hj
                refine ⟨by omega, h1.2, fun v hv e => ?_⟩
                simp only [List.mem_cons, List.not_mem_nil, or_false] at hv
                subst hv
                have := hult j e
                omega
              have htl : ((stCs s).take k).length = k := by rw [List.length_take, stCs_len, ← HF.out.2.1]; omega
              obtain ⟨A9, c9, X36, hr9, d9, t9, l9⟩ := d33.push' ChgR.lasts TChg (cs := [.string s.name, .int .i64 o2, .slice AD (s.v.length + 1) cD]) (x := stC s k) ⟨_, by rw [HO.out]; rfl, sl3⟩ rfl (by intro u hu; simp at hu; rcases hu with rfl | rfl | rfl <;> rfl) (by have := TZ33.size; omega) (by rw [htl]; omega) (fun j hj => SX_not (v := .slice Au k cu) (by simp) hj) 43 (by omega)
              rw [htl] at hr9 d9 l9
              rw [← stCs_step s k (by rw [← HF.out.2.1]; exact hlt)] at d9
              have D9 := Lib.hid (And.intro d9 (And.intro t9 (And.intro l9 (And.intro hult (And.intro hz1 TZ33)))))
              clear d9 t9 l9 hult hz1 d33 e1 e2 sl3 htl
              refine hK _ _ (.mk' trivial (TZ33.mono (by simp))) ?_
              clear hK K
              try simp only [sI, sS, sZ]
              refine rkA 16 34 131071 (v := ?_) ?_ (.mk' trivial (TZ33.mono (by simp))) ?_
              rotate_left
              · intro W hS; go_simp; all_goals with_reducible rfl
              try simp only [sI, sS, sZ]
              refine rk1 17 262143 (fun K hK => ?_)
              go_simp
              refine hK _ _ (.mk' trivial ((TZ33.alloc _).mono (by simp))) ?_
              clear hK K
              try simp only [sI, sS, sZ]
              refine rk1 18 524287 (fun K hK => ?_)
              refine wp_append_run (P := Tryz.prog) (w := X33.alloc (.cells #[.string s.name, .int .i64 o2, .slice AD (s.v.length + 1) cD] 67)) (.tmp 18) (.tmp 35) (by rfl) (vs := _) (vx := _) (by rfl) (by rfl) (R := fun v w' => Value.slice A9 (k + 1) c9 = v ∧ X36 = w') ⟨_, _, hr9, rfl, rfl⟩ ?_
              rintro _ _ ⟨rfl, rfl⟩
              refine hK _ _ (.mk' trivial ((TZ33.mono (by simp)).trans D9.out.2.1 (fun x hx => .inl hx))) ?_
              clear hK K
              try simp only [sI, sS, sZ]
              refine rk1 19 1048575 (fun K hK => ?_)
              go_simp
              refine hK _ _ (.p trivial) ?_
              clear hK K
              try simp only [sI, sS, sZ]
              refine rkZ ?_
              go_wp2_with fail
              go_meet
              obtain ⟨d9, t9, l9, hult, hz1, TZ33⟩ := D9.out
              have hs9 := t9.size
              have h33 := TZ33.size
              exact ⟨A9, c9, rfl, d9.mono ChgR.lasts (fun j hj hj' => ⟨hj'.1, hj, fun v hv e => by
                simp only [List.mem_cons, List.not_mem_nil, or_false] at hv
                subst hv
                rcases l9 j e with h | h
                · exact hj'.2.2 _ (by simp) h
                · have := hj'.2.1; omega⟩) (Nat.le_refl _), (HS.out.2.2.2.trans TZ33 (by simp)).trans t9 (fun x hx => .inr (hult x (by simpa using hx)).1)⟩
          · go_simp
            have LC : Sl (X27.alloc (.cells #[.int .i64 2, .int .i64 (k : Int), .string ⟨#[]⟩] 109)) (X27.alloc (.cells #[.int .i64 2, .int .i64 (k : Int), .string ⟨#[]⟩] 109)).heap.size 3 (.slice (some ⟨X27.heap.size, 0, none⟩) 1 1) 1 [.int .i64 2, .int .i64 (k : Int), .string ⟨#[]⟩] := (Sl.new X27 #[.int .i64 2, .int .i64 (k : Int), .string ⟨#[]⟩] 109 1 3 rfl (by simp [maxLen])).more (by simp)
            have DC : Turns [] X27 (X27.alloc (.cells #[.int .i64 2, .int .i64 (k : Int), .string ⟨#[]⟩] 109)) := (Turns.refl _ _).alloc _
            have TZ32 : Turns [] Z (X27.alloc (.cells #[.int .i64 2, .int .i64 (k : Int), .string ⟨#[]⟩] 109)) := TZ27.trans DC (by simp)
            obtain ⟨gC, hgC⟩ : ∃ g, g = X27.heap.size := ⟨_, rfl⟩
            rw [← hgC] at LC ⊢
            have ylt : gC < (X27.alloc (.cells #[.int .i64 2, .int .i64 (k : Int), .string ⟨#[]⟩] 109)).heap.size := by rw [hgC]; simp
            generalize X27.alloc (.cells #[.int .i64 2, .int .i64 (k : Int), .string ⟨#[]⟩] 109) = X32 at LC DC TZ32 ylt ⊢
            have BC := Lib.hid (And.intro hgC ylt)
            clear hgC ylt
            refine hK _ _ (.mk' trivial (TZ32.mono (by simp))) ?_
            clear hK K
            try simp only [sI, sS, sZ]
            refine rk1 7 30463 (fun K hK => ?_)
            go_simp
            refine (W2.out X32).mono ?_
            rintro e w25 ⟨rfl, rfl⟩
            refine hK _ _ (.mk' trivial (TZ32.mono (by simp))) ?_
            clear hK K
            try simp only [sI, sS, sZ]
            refine rkA 8 26 30719 (v := ?_) ?_ (.mk' trivial (TZ32.mono (by simp))) ?_
            rotate_left
            · intro W hS; go_simp; all_goals with_reducible rfl
            try simp only [sI, sS, sZ]
            refine rk1 11 32767 (fun K hK => ?_)
            obtain ⟨AB, cB, X29, hrB, oB, tB, lB⟩ := own_app TV (own_more (base := Z.heap.size) (own_v0 oA DC) (by have := BA.out; omega)) (TZ32.slice HS.out.1 (Nat.le_refl _) (by simp)) HS.out.2.1 TZ32.size (by omega) (by omega) (by omega) 35
            rw [Nat.zero_add] at hrB oB lB
            rw [List.nil_append] at oB
            have TZ29 : Turns [] Z X29 := TZ32.trans tB (by intro x hx; simp [Value.ownBlock] at hx; exact .inr (by have := BA.out; omega))
            refine wp_append_run (P := Tryz.prog) (w := X32) (.tmp 27) (.tmp 28) (by rfl) (vs := _) (vx := _) (by rfl) (by rfl) (R := fun v w' => Value.slice AB s.v.length cB = v ∧ X29 = w') ⟨_, _, hrB, rfl, rfl⟩ ?_
            rintro _ _ ⟨rfl, rfl⟩
            refine hK _ _ (.mk' trivial (TZ29.mono (by simp))) ?_
            clear hK K
            try simp only [sI, sS, sZ]
            refine rk1 15 65535 (fun K hK => ?_)
            obtain ⟨AD, cD, X33, hrD, oD, tD, lD⟩ := own_app TV (oB) (tB.slice LC (by first | exact Nat.le_refl _ | exact DA.size) (by intro x hx e; simp [Value.ownBlock] at hx e; have := BA.out; have := BC.out; omega)) (by intro u hu; simp at hu; rcases hu with rfl | rfl | rfl <;> rfl) TZ29.size (by omega) (by omega) (by omega) 35
            have TZ33 : Turns [] Z X33 := TZ29.trans tD (by intro x hx; exact .inr ((oB).lt x (by simpa using hx)).1)
            refine wp_append_run (P := Tryz.prog) (w := X29) (.tmp 29) (.tmp 32) (by rfl) (vs := _) (vx := _) (by rfl) (by rfl) (R := fun v w' => Value.slice AD (s.v.length + 1) cD = v ∧ X33 = w') ⟨_, _, hrD, rfl, rfl⟩ ?_
            rintro _ _ ⟨rfl, rfl⟩
            have hult : ∀ j, (Value.slice Au k cu).ownBlock = some j → w1.heap.size ≤ j ∧ j < Z.heap.size := fun j hj => HS.out.2.2.1.lt j hj
            have hz1 := HS.out.2.2.2.size
            have d33 := (HS.out.2.2.1.keep ChgR.lasts TZ33 (by simp) (by simp)).mono ChgR.lasts (S' := SX w1.heap.size X33.heap.size [.slice Au k cu]) (fun j hj hj' => ⟨hj'.1, hj, hj'.2.2⟩) (Nat.le_refl _)
            have e1 : (stC s k).row.length = s.v.length + 1 := by simp [stC]
            have e2 : valCells (stC s k).row = valCells (s.v.map gval) ++ [.int .i64 2, .int .i64 (k : Int), .string ⟨#[]⟩] := by simp [stC, valCells, Val.cells]
            have sl3 : SlS X33 (SX w1.heap.size X33.heap.size [.slice Au k cu]) 3 (.slice AD (s.v.length + 1) cD) (stC s k).row.length (valCells (stC s k).row) := by
              rw [e1, e2]
              refine SlS.of_own oD (fun j hj => ?_)
              have h1 := oD.lt j hj
              refine ⟨by omega, h1.2, fun v hv e => ?_⟩
              simp only [List.mem_cons, List.not_mem_nil, or_false] at hv
              subst hv
              have := hult j e
              omega
            have htl : ((stCs s).take k).length = k := by rw [List.length_take, stCs_len, ← HF.out.2.1]; omega
            obtain ⟨A9, c9, X36, hr9, d9, t9, l9⟩ := d33.push' ChgR.lasts TChg (cs := [.string s.name, .int .i64 o2, .slice AD (s.v.length + 1) cD]) (x := stC s k) ⟨_, by rw [HO.out]; rfl, sl3⟩ rfl (by intro u hu; simp at hu; rcases hu with rfl | rfl | rfl <;> rfl) (by have := TZ33.size; omega) (by rw [htl]; omega) (fun j hj => SX_not (v := .slice Au k cu) (by simp) hj) 43 (by omega)
            rw [htl] at hr9 d9 l9
            rw [← stCs_step s k (by rw [← HF.out.2.1]; exact hlt)] at d9
            have D9 := Lib.hid (And.intro d9 (And.intro t9 (And.intro l9 (And.intro hult (And.intro hz1 TZ33)))))
            clear d9 t9 l9 hult hz1 d33 e1 e2 sl3 htl
            refine hK _ _ (.mk' trivial (TZ33.mono (by simp))) ?_
            clear hK K
            try simp only [sI, sS, sZ]
            refine rkA 16 34 131071 (v := ?_) ?_ (.mk' trivial (TZ33.mono (by simp))) ?_
            rotate_left
            · intro W hS; go_simp; all_goals with_reducible rfl
            try simp only [sI, sS, sZ]
            refine rk1 17 262143 (fun K hK => ?_)
            go_simp
            refine hK _ _ (.mk' trivial ((TZ33.alloc _).mono (by simp))) ?_
            clear hK K
            try simp only [sI, sS, sZ]
            refine rk1 18 524287 (fun K hK => ?_)
            refine wp_append_run (P := Tryz.prog) (w := X33.alloc (.cells #[.string s.name, .int .i64 o2, .slice AD (s.v.length + 1) cD] 67)) (.tmp 18) (.tmp 35) (by rfl) (vs := _) (vx := _) (by rfl) (by rfl) (R := fun v w' => Value.slice A9 (k + 1) c9 = v ∧ X36 = w') ⟨_, _, hr9, rfl, rfl⟩ ?_
            rintro _ _ ⟨rfl, rfl⟩
            refine hK _ _ (.mk' trivial ((TZ33.mono (by simp)).trans D9.out.2.1 (fun x hx => .inl hx))) ?_
            clear hK K
            try simp only [sI, sS, sZ]
            refine rk1 19 1048575 (fun K hK => ?_)
            go_simp
            refine hK _ _ (.p trivial) ?_
            clear hK K
            try simp only [sI, sS, sZ]
            refine rkZ ?_
            go_wp2_with fail
            go_meet
            obtain ⟨d9, t9, l9, hult, hz1, TZ33⟩ := D9.out
            have hs9 := t9.size
            have h33 := TZ33.size
            exact ⟨A9, c9, rfl, d9.mono ChgR.lasts (fun j hj hj' => ⟨hj'.1, hj, fun v hv e => by
              simp only [List.mem_cons, List.not_mem_nil, or_false] at hv
              subst hv
              rcases l9 j e with h | h
              · exact hj'.2.2 _ (by simp) h
              · have := hj'.2.1; omega⟩) (Nat.le_refl _), (HS.out.2.2.2.trans TZ33 (by simp)).trans t9 (fun x hx => .inr (hult x (by simpa using hx)).1)⟩
        · go_simp
          have LC : Sl (Z.alloc (.cells #[.int .i64 2, .int .i64 (k : Int), .string ⟨#[]⟩] 109)) (Z.alloc (.cells #[.int .i64 2, .int .i64 (k : Int), .string ⟨#[]⟩] 109)).heap.size 3 (.slice (some ⟨Z.heap.size, 0, none⟩) 1 1) 1 [.int .i64 2, .int .i64 (k : Int), .string ⟨#[]⟩] := (Sl.new Z #[.int .i64 2, .int .i64 (k : Int), .string ⟨#[]⟩] 109 1 3 rfl (by simp [maxLen])).more (by simp)
          have DC : Turns [] Z (Z.alloc (.cells #[.int .i64 2, .int .i64 (k : Int), .string ⟨#[]⟩] 109)) := (Turns.refl _ _).alloc _
          have TZ32 : Turns [] Z (Z.alloc (.cells #[.int .i64 2, .int .i64 (k : Int), .string ⟨#[]⟩] 109)) := (Turns.refl [] Z).trans DC (by simp)
          obtain ⟨gC, hgC⟩ : ∃ g, g = Z.heap.size := ⟨_, rfl⟩
          rw [← hgC] at LC ⊢
          have ylt : gC < (Z.alloc (.cells #[.int .i64 2, .int .i64 (k : Int), .string ⟨#[]⟩] 109)).heap.size := by rw [hgC]; simp
          generalize Z.alloc (.cells #[.int .i64 2, .int .i64 (k : Int), .string ⟨#[]⟩] 109) = X32 at LC DC TZ32 ylt ⊢
          have BC := Lib.hid (And.intro hgC ylt)
          clear hgC ylt
          refine hK _ _ (.mk' trivial (TZ32.mono (by simp))) ?_
          clear hK K
          try simp only [sI, sS, sZ]
          refine rk2 7 9 29951 30335 (fun K hK => ?_) (fun K hK => ?_)
          · go_simp
            refine (W2.out X32).mono ?_
            rintro e w25 ⟨rfl, rfl⟩
            refine hK _ _ (.mk' trivial (TZ32.mono (by simp))) ?_
            clear hK K
            try simp only [sI, sS, sZ]
            refine rkA 8 26 30207 (v := ?_) ?_ (.mk' trivial (TZ32.mono (by simp))) ?_
            rotate_left
            · intro W hS; go_simp; all_goals with_reducible rfl
            try simp only [sI, sS, sZ]
            refine rk1 9 30719 (fun K hK => ?_)
            go_simp
            have oA := own_empty X32 109 3
            have DA : Turns [] X32 (X32.alloc (.cells #[] 109)) := (Turns.refl _ _).alloc _
            have TZ27 : Turns [] Z (X32.alloc (.cells #[] 109)) := TZ32.trans DA (by simp)
            obtain ⟨gA, hgA⟩ : ∃ g, g = X32.heap.size := ⟨_, rfl⟩
            rw [← hgA] at oA ⊢
            have zz : Z.heap.size ≤ gA := by rw [hgA]; exact TZ32.size
            have ylt : gA < (X32.alloc (.cells #[] 109)).heap.size := by rw [hgA]; simp
            generalize X32.alloc (.cells #[] 109) = X27 at oA DA TZ27 ylt ⊢
            have BA := Lib.hid (And.intro hgA (And.intro zz ylt))
            clear hgA zz ylt
            refine hK _ _ (.mk' trivial (TZ27.mono (by simp))) ?_
            clear hK K
            try simp only [sI, sS, sZ]
            refine rk1 11 32767 (fun K hK => ?_)
            obtain ⟨AB, cB, X29, hrB, oB, tB, lB⟩ := own_app TV (own_more (base := Z.heap.size) (oA) (by have := BA.out; omega)) (TZ27.slice HS.out.1 (Nat.le_refl _) (by simp)) HS.out.2.1 TZ27.size (by omega) (by omega) (by omega) 35
            rw [Nat.zero_add] at hrB oB lB
            rw [List.nil_append] at oB
            have TZ29 : Turns [] Z X29 := TZ27.trans tB (by intro x hx; simp [Value.ownBlock] at hx; exact .inr (by have := BA.out; omega))
            refine wp_append_run (P := Tryz.prog) (w := X27) (.tmp 27) (.tmp 28) (by rfl) (vs := _) (vx := _) (by rfl) (by rfl) (R := fun v w' => Value.slice AB s.v.length cB = v ∧ X29 = w') ⟨_, _, hrB, rfl, rfl⟩ ?_
            rintro _ _ ⟨rfl, rfl⟩
            refine hK _ _ (.mk' trivial (TZ29.mono (by simp))) ?_
            clear hK K
            try simp only [sI, sS, sZ]
            refine rk1 15 65535 (fun K hK => ?_)
            obtain ⟨AD, cD, X33, hrD, oD, tD, lD⟩ := own_app TV (oB) (tB.slice (DA.slice LC (Nat.le_refl _) (by simp)) (by first | exact Nat.le_refl _ | exact DA.size) (by intro x hx e; simp [Value.ownBlock] at hx e; have := BA.out; have := BC.out; omega)) (by intro u hu; simp at hu; rcases hu with rfl | rfl | rfl <;> rfl) TZ29.size (by omega) (by omega) (by omega) 35
            have TZ33 : Turns [] Z X33 := TZ29.trans tD (by intro x hx; exact .inr ((oB).lt x (by simpa using hx)).1)
            refine wp_append_run (P := Tryz.prog) (w := X29) (.tmp 29) (.tmp 32) (by rfl) (vs := _) (vx := _) (by rfl) (by rfl) (R := fun v w' => Value.slice AD (s.v.length + 1) cD = v ∧ X33 = w') ⟨_, _, hrD, rfl, rfl⟩ ?_
            rintro _ _ ⟨rfl, rfl⟩
            have hult : ∀ j, (Value.slice Au k cu).ownBlock = some j → w1.heap.size ≤ j ∧ j < Z.heap.size := fun j hj => HS.out.2.2.1.lt j hj
            have hz1 := HS.out.2.2.2.size
            have d33 := (HS.out.2.2.1.keep ChgR.lasts TZ33 (by simp) (by simp)).mono ChgR.lasts (S' := SX w1.heap.size X33.heap.size [.slice Au k cu]) (fun j hj hj' => ⟨hj'.1, hj, hj'.2.2⟩) (Nat.le_refl _)
            have e1 : (stC s k).row.length = s.v.length + 1 := by simp [stC]
            have e2 : valCells (stC s k).row = valCells (s.v.map gval) ++ [.int .i64 2, .int .i64 (k : Int), .string ⟨#[]⟩] := by simp [stC, valCells, Val.cells]
            have sl3 : SlS X33 (SX w1.heap.size X33.heap.size [.slice Au k cu]) 3 (.slice AD (s.v.length + 1) cD) (stC s k).row.length (valCells (stC s k).row) := by
              rw [e1, e2]
              refine SlS.of_own oD (fun j hj => ?_)
              have h1 := oD.lt j hj
              refine ⟨by omega, h1.2, fun v hv e => ?_⟩
              simp only [List.mem_cons, List.not_mem_nil, or_false] at hv
              subst hv
              have := hult j e
              omega
            have htl : ((stCs s).take k).length = k := by rw [List.length_take, stCs_len, ← HF.out.2.1]; omega
            obtain ⟨A9, c9, X36, hr9, d9, t9, l9⟩ := d33.push' ChgR.lasts TChg (cs := [.string s.name, .int .i64 o2, .slice AD (s.v.length + 1) cD]) (x := stC s k) ⟨_, by rw [HO.out]; rfl, sl3⟩ rfl (by intro u hu; simp at hu; rcases hu with rfl | rfl | rfl <;> rfl) (by have := TZ33.size; omega) (by rw [htl]; omega) (fun j hj => SX_not (v := .slice Au k cu) (by simp) hj) 43 (by omega)
            rw [htl] at hr9 d9 l9
            rw [← stCs_step s k (by rw [← HF.out.2.1]; exact hlt)] at d9
            have D9 := Lib.hid (And.intro d9 (And.intro t9 (And.intro l9 (And.intro hult (And.intro hz1 TZ33)))))
            clear d9 t9 l9 hult hz1 d33 e1 e2 sl3 htl
            refine hK _ _ (.mk' trivial (TZ33.mono (by simp))) ?_
            clear hK K
            try simp only [sI, sS, sZ]
            refine rkA 16 34 131071 (v := ?_) ?_ (.mk' trivial (TZ33.mono (by simp))) ?_
            rotate_left
            · intro W hS; go_simp; all_goals with_reducible rfl
            try simp only [sI, sS, sZ]
            refine rk1 17 262143 (fun K hK => ?_)
            go_simp
            refine hK _ _ (.mk' trivial ((TZ33.alloc _).mono (by simp))) ?_
            clear hK K
            try simp only [sI, sS, sZ]
            refine rk1 18 524287 (fun K hK => ?_)
            refine wp_append_run (P := Tryz.prog) (w := X33.alloc (.cells #[.string s.name, .int .i64 o2, .slice AD (s.v.length + 1) cD] 67)) (.tmp 18) (.tmp 35) (by rfl) (vs := _) (vx := _) (by rfl) (by rfl) (R := fun v w' => Value.slice A9 (k + 1) c9 = v ∧ X36 = w') ⟨_, _, hr9, rfl, rfl⟩ ?_
            rintro _ _ ⟨rfl, rfl⟩
            refine hK _ _ (.mk' trivial ((TZ33.mono (by simp)).trans D9.out.2.1 (fun x hx => .inl hx))) ?_
            clear hK K
            try simp only [sI, sS, sZ]
            refine rk1 19 1048575 (fun K hK => ?_)
            go_simp
            refine hK _ _ (.p trivial) ?_
            clear hK K
            try simp only [sI, sS, sZ]
            refine rkZ ?_
            go_wp2_with fail
            go_meet
            obtain ⟨d9, t9, l9, hult, hz1, TZ33⟩ := D9.out
            have hs9 := t9.size
            have h33 := TZ33.size
            exact ⟨A9, c9, rfl, d9.mono ChgR.lasts (fun j hj hj' => ⟨hj'.1, hj, fun v hv e => by
              simp only [List.mem_cons, List.not_mem_nil, or_false] at hv
              subst hv
              rcases l9 j e with h | h
              · exact hj'.2.2 _ (by simp) h
              · have := hj'.2.1; omega⟩) (Nat.le_refl _), (HS.out.2.2.2.trans TZ33 (by simp)).trans t9 (fun x hx => .inr (hult x (by simpa using hx)).1)⟩
          · go_simp
            have oA := own_empty X32 109 3
            have DA : Turns [] X32 (X32.alloc (.cells #[] 109)) := (Turns.refl _ _).alloc _
            have TZ27 : Turns [] Z (X32.alloc (.cells #[] 109)) := TZ32.trans DA (by simp)
            obtain ⟨gA, hgA⟩ : ∃ g, g = X32.heap.size := ⟨_, rfl⟩
            rw [← hgA] at oA ⊢
            have zz : Z.heap.size ≤ gA := by rw [hgA]; exact TZ32.size
            have ylt : gA < (X32.alloc (.cells #[] 109)).heap.size := by rw [hgA]; simp
            generalize X32.alloc (.cells #[] 109) = X27 at oA DA TZ27 ylt ⊢
            have BA := Lib.hid (And.intro hgA (And.intro zz ylt))
            clear hgA zz ylt
            refine hK _ _ (.mk' trivial (TZ27.mono (by simp))) ?_
            clear hK K
            try simp only [sI, sS, sZ]
            refine rk1 7 30463 (fun K hK => ?_)
            go_simp
            refine (W2.out X27).mono ?_
            rintro e w25 ⟨rfl, rfl⟩
            refine hK _ _ (.mk' trivial (TZ27.mono (by simp))) ?_
            clear hK K
            try simp only [sI, sS, sZ]
            refine rkA 8 26 30719 (v := ?_) ?_ (.mk' trivial (TZ27.mono (by simp))) ?_
            rotate_left
            · intro W hS; go_simp; all_goals with_reducible rfl
            try simp only [sI, sS, sZ]
            refine rk1 11 32767 (fun K hK => ?_)
            obtain ⟨AB, cB, X29, hrB, oB, tB, lB⟩ := own_app TV (own_more (base := Z.heap.size) (oA) (by have := BA.out; omega)) (TZ27.slice HS.out.1 (Nat.le_refl _) (by simp)) HS.out.2.1 TZ27.size (by omega) (by omega) (by omega) 35
            rw [Nat.zero_add] at hrB oB lB
            rw [List.nil_append] at oB
            have TZ29 : Turns [] Z X29 := TZ27.trans tB (by intro x hx; simp [Value.ownBlock] at hx; exact .inr (by have := BA.out; omega))
            refine wp_append_run (P := Tryz.prog) (w := X27) (.tmp 27) (.tmp 28) (by rfl) (vs := _) (vx := _) (by rfl) (by rfl) (R := fun v w' => Value.slice AB s.v.length cB = v ∧ X29 = w') ⟨_, _, hrB, rfl, rfl⟩ ?_
            rintro _ _ ⟨rfl, rfl⟩
            refine hK _ _ (.mk' trivial (TZ29.mono (by simp))) ?_
            clear hK K
            try simp only [sI, sS, sZ]
            refine rk1 15 65535 (fun K hK => ?_)
            obtain ⟨AD, cD, X33, hrD, oD, tD, lD⟩ := own_app TV (oB) (tB.slice (DA.slice LC (Nat.le_refl _) (by simp)) (by first | exact Nat.le_refl _ | exact DA.size) (by intro x hx e; simp [Value.ownBlock] at hx e; have := BA.out; have := BC.out; omega)) (by intro u hu; simp at hu; rcases hu with rfl | rfl | rfl <;> rfl) TZ29.size (by omega) (by omega) (by omega) 35
            have TZ33 : Turns [] Z X33 := TZ29.trans tD (by intro x hx; exact .inr ((oB).lt x (by simpa using hx)).1)
            refine wp_append_run (P := Tryz.prog) (w := X29) (.tmp 29) (.tmp 32) (by rfl) (vs := _) (vx := _) (by rfl) (by rfl) (R := fun v w' => Value.slice AD (s.v.length + 1) cD = v ∧ X33 = w') ⟨_, _, hrD, rfl, rfl⟩ ?_
            rintro _ _ ⟨rfl, rfl⟩
            have hult : ∀ j, (Value.slice Au k cu).ownBlock = some j → w1.heap.size ≤ j ∧ j < Z.heap.size := fun j hj => HS.out.2.2.1.lt j hj
            have hz1 := HS.out.2.2.2.size
            have d33 := (HS.out.2.2.1.keep ChgR.lasts TZ33 (by simp) (by simp)).mono ChgR.lasts (S' := SX w1.heap.size X33.heap.size [.slice Au k cu]) (fun j hj hj' => ⟨hj'.1, hj, hj'.2.2⟩) (Nat.le_refl _)
            have e1 : (stC s k).row.length = s.v.length + 1 := by simp [stC]
            have e2 : valCells (stC s k).row = valCells (s.v.map gval) ++ [.int .i64 2, .int .i64 (k : Int), .string ⟨#[]⟩] := by simp [stC, valCells, Val.cells]
            have sl3 : SlS X33 (SX w1.heap.size X33.heap.size [.slice Au k cu]) 3 (.slice AD (s.v.length + 1) cD) (stC s k).row.length (valCells (stC s k).row) := by
              rw [e1, e2]
              refine SlS.of_own oD (fun j hj => ?_)
              have h1 := oD.lt j hj
              refine ⟨by omega, h1.2, fun v hv e => ?_⟩
              simp only [List.mem_cons, List.not_mem_nil, or_false] at hv
              subst hv
              have := hult j e
              omega
            have htl : ((stCs s).take k).length = k := by rw [List.length_take, stCs_len, ← HF.out.2.1]; omega
            obtain ⟨A9, c9, X36, hr9, d9, t9, l9⟩ := d33.push' ChgR.lasts TChg (cs := [.string s.name, .int .i64 o2, .slice AD (s.v.length + 1) cD]) (x := stC s k) ⟨_, by rw [HO.out]; rfl, sl3⟩ rfl (by intro u hu; simp at hu; rcases hu with rfl | rfl | rfl <;> rfl) (by have := TZ33.size; omega) (by rw [htl]; omega) (fun j hj => SX_not (v := .slice Au k cu) (by simp) hj) 43 (by omega)
            rw [htl] at hr9 d9 l9
            rw [← stCs_step s k (by rw [← HF.out.2.1]; exact hlt)] at d9
            have D9 := Lib.hid (And.intro d9 (And.intro t9 (And.intro l9 (And.intro hult (And.intro hz1 TZ33)))))
            clear d9 t9 l9 hult hz1 d33 e1 e2 sl3 htl
            refine hK _ _ (.mk' trivial (TZ33.mono (by simp))) ?_
            clear hK K
            try simp only [sI, sS, sZ]
            refine rkA 16 34 131071 (v := ?_) ?_ (.mk' trivial (TZ33.mono (by simp))) ?_
            rotate_left
            · intro W hS; go_simp; all_goals with_reducible rfl
            try simp only [sI, sS, sZ]
            refine rk1 17 262143 (fun K hK => ?_)
            go_simp
            refine hK _ _ (.mk' trivial ((TZ33.alloc _).mono (by simp))) ?_
            clear hK K
            try simp only [sI, sS, sZ]
            refine rk1 18 524287 (fun K hK => ?_)
            refine wp_append_run (P := Tryz.prog) (w := X33.alloc (.cells #[.string s.name, .int .i64 o2, .slice AD (s.v.length + 1) cD] 67)) (.tmp 18) (.tmp 35) (by rfl) (vs := _) (vx := _) (by rfl) (by rfl) (R := fun v w' => Value.slice A9 (k + 1) c9 = v ∧ X36 = w') ⟨_, _, hr9, rfl, rfl⟩ ?_
            rintro _ _ ⟨rfl, rfl⟩
            refine hK _ _ (.mk' trivial ((TZ33.mono (by simp)).trans D9.out.2.1 (fun x hx => .inl hx))) ?_
            clear hK K
            try simp only [sI, sS, sZ]
            refine rk1 19 1048575 (fun K hK => ?_)
            go_simp
            refine hK _ _ (.p trivial) ?_
            clear hK K
            try simp only [sI, sS, sZ]
            refine rkZ ?_
            go_wp2_with fail
            go_meet
            obtain ⟨d9, t9, l9, hult, hz1, TZ33⟩ := D9.out
            have hs9 := t9.size
            have h33 := TZ33.size
            exact ⟨A9, c9, rfl, d9.mono ChgR.lasts (fun j hj hj' => ⟨hj'.1, hj, fun v hv e => by
              simp only [List.mem_cons, List.not_mem_nil, or_false] at hv
              subst hv
              rcases l9 j e with h | h
              · exact hj'.2.2 _ (by simp) h
              · have := hj'.2.1; omega⟩) (Nat.le_refl _), (HS.out.2.2.2.trans TZ33 (by simp)).trans t9 (fun x hx => .inr (hult x (by simpa using hx)).1)⟩
      case rest =>
        obtain ⟨A9, c9, rfl, d9, t9⟩ := hcut
        have HFIN := Lib.hid (And.intro d9 t9)
        clear d9 t9
        go_wp2_with fail
        go_roundw
        case rel => exact ⟨k + 1, A9, c9, by omega, by go_num, rfl, HFIN.out.1, HFIN.out.2⟩
        case measure => (simp [intOf] <;> omega)
    · have hki : ¬ (k : Int) < (n : Int) := by omega
      obtain rfl : k = n := by omega
      have HFX := Lib.hid (show Deep ChgR wr (fun b => w0.heap.size ≤ b) 3 (.slice Au k cu) (stCs s) ∧ Turns [] w0 wr by
        have h := HDU.out.1
        rw [List.take_of_length_le (by rw [stCs_len]; have := HF.out.2.1; omega)] at h
        have hs := H1.out.2.1.size
        exact ⟨h.deep ChgR.lasts (fun j _ hj => by have := hj.1; omega) (fun j hj => by have := (h.lt j hj).1; omega), H1.out.2.1.trans HDU.out.2.1 (by simp)⟩)
      clear c0 HDU
      go_wp2_with fail
      go_ret
      exact ⟨_, _, rfl, HFX.out.1, HFX.out.2⟩
end Go.Proofs.YtoahnhphfabajaaGreat
