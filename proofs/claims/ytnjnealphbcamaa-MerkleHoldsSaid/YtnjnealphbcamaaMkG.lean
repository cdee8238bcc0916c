/- Sums are compared; rows of sums of one's own. -/
import Derived.Test.YtnjnealphbcamaaMkE
import Derived.Test.YtnjnealphbcamaaMkF
import Derived.Stop.BytesEq
namespace Go.Proofs.Ytnjnealphbcamaa
open Go.RowKit
set_option linter.unusedVariables false
set_option maxRecDepth 10000
set_option linter.unusedSimpArgs false
set_option linter.unnecessarySimpa false

theorem sz_u8 (w : World) : (sizeOf 5).run Try.prog w = .ok 1 w := by kernel_rfl
theorem und_hash : Try.prog.underlying 27 = some (.array 32 5) := by kernel_rfl
theorem und_u8 : Try.prog.underlying 5 = some (.int .u8) := by kernel_rfl
theorem eqlH (x y : List UInt8) (hx : x.length = 32) (hy : y.length = 32) : ∀ w, (Op.equalIn 10000 27 (.agg (bvs x).toArray) (.agg (bvs y).toArray)).run Try.prog w = .ok (x == y) w :=
  fun w => run_equalIn_bytes w 9998 27 5 32 und_hash und_u8 sz_u8 x y hx hy
theorem eqlS (x : List UInt8) (hx : x.length = 32) : ∀ w, (Op.equalIn 10000 27 (.agg (bvs x).toArray) (.agg (bvs x).toArray)).run Try.prog w = .ok true w :=
  fun w => by rw [eqlH x x hx hx w]; simp

theorem T23 : SliceTy Try.prog 23 27 (.agg (bvs (zeros 32)).toArray) 32 32 := ⟨Try.underlying23, by kernel_rfl, by kernel_rfl, by omega⟩
/-- A row of sums of one's own, made behind W0. -/
structure HMine (W0 w : World) (v : Value) (hs : List (List UInt8)) : Prop where
  own : w.ownsRow W0.heap.size 27 32 v hs.length (hcells hs)
  turns : Turns [] W0 w
  all : ∀ h ∈ hs, h.length = 32
theorem HMine.nil {W0 w : World} (t : Turns [] W0 w) : HMine W0 w (.slice none 0 0) [] := ⟨World.ownsRow_nil _ _ _ _, t, by simp⟩
theorem HMine.hs {W0 w : World} {v : Value} {hs : List (List UInt8)} (h : HMine W0 w v hs) : Hs w w.heap.size v hs := ⟨Sl.of_own h.own, h.all⟩
theorem HMine.on {W0 w w' : World} {v : Value} {hs : List (List UInt8)} (h : HMine W0 w v hs) (t : Turns [] w w') : HMine W0 w' v hs := by
  refine ⟨?_, h.turns.trans t (by simp), h.all⟩
  obtain ⟨h1, h2⟩ := h.own
  refine ⟨h1, ?_⟩
  rcases h2 with h2 | ⟨g, cap, cur, hv, hg, hh, r⟩
  · exact Or.inl h2
  · refine Or.inr ⟨g, cap, cur, hv, hg, ?_, r⟩
    rw [t.block g (Array.getElem?_eq_some_iff.1 hh).1 (by simp)]
    exact hh
theorem HMine.len {W0 w : World} {v : Value} {hs : List (List UInt8)} (h : HMine W0 w v hs) : ∃ A c, v = .slice A hs.length c ∧ hs.length ≤ c := by
  obtain ⟨A, c, e, h1, _⟩ := h.hs.form
  exact ⟨A, c, e, h1⟩
theorem hmine_append {W0 w : World} {v : Value} {hs : List (List UInt8)} (h : HMine W0 w v hs) {B : Nat} {x : Value} {cs : List (List UInt8)} (hx : Hs w B x cs) (hm : hs.length + cs.length ≤ 1000000000) (ty : TypeId) :
    ∃ v' w', (Builtin.append_ #[23, 23] ty #[v, x]).run Try.prog w = .ok v' w' ∧ HMine W0 w' v' (hs ++ cs) := by
  obtain ⟨v1, w1, hr1, ap1⟩ := run_append_rd (P := Try.prog) w T23 ty h.own hx.sl (hcells_one _) (by simp only [maxLen]; omega) (by omega) h.turns.size
  refine ⟨v1, w1, hr1, ?_⟩
  rw [← hcells_append] at ap1
  have hl : (hs ++ cs).length = hs.length + cs.length := List.length_append
  refine ⟨by rw [hl]; exact ap1.own, ?_, ?_⟩
  · exact h.turns.trans (L' := v.ownBlock.toList) (Turns.of_grown ap1.grown (by intro k hk; exact .inl (by simpa using hk))) (by intro x hx; exact .inr (h.own.lt x (by simpa using hx)).1)
  · intro y hy
    rcases List.mem_append.1 hy with hy | hy
    · exact h.all y hy
    · exact hx.all y hy
theorem hmine_push {W0 w : World} {v : Value} {hs : List (List UInt8)} (h : HMine W0 w v hs) (hm : hs.length ≤ 1000000) (x : List UInt8) (hx : x.length = 32) (ty : TypeId) :
    ∃ v' w', (Builtin.append_ #[23, 23] ty #[v, .slice (some ⟨w.heap.size, 0, none⟩) 1 1]).run Try.prog (w.alloc (.cells (bvs x).toArray 27)) = .ok v' w' ∧ HMine W0 w' v' (hs ++ [x]) :=
  hmine_append (h.on ((Turns.refl [] w).alloc _)) (Hs.one w x hx _) (by simp; omega) ty

/-- The rows of the statements. -/
def hash1 (i : Nat) : List UInt8 := [UInt8.ofNat i, UInt8.ofNat (i / 256), 5] ++ zeros 29
def hashesL (n : Nat) : List (List UInt8) := (List.range n).map hash1
theorem hash1_len (i : Nat) : (hash1 i).length = 32 := by simp [hash1, zeros]
theorem hashesL_len (n : Nat) : (hashesL n).length = n := by simp [hashesL]
theorem hashesL_all (n : Nat) : ∀ h ∈ hashesL n, h.length = 32 := by
  intro h hh
  obtain ⟨i, _, rfl⟩ := List.mem_map.1 hh
  exact hash1_len i
theorem hashesL_step (n : Nat) : hashesL (n + 1) = hashesL n ++ [hash1 n] := by simp [hashesL, List.range_succ]
theorem hash1_cells (i : Nat) (hi : i < 256) : (bvs (hash1 i)).toArray = #[.int .u8 (i : Int), .int .u8 ((i : Int) / 256), .int .u8 5, .int .u8 0, .int .u8 0, .int .u8 0, .int .u8 0, .int .u8 0, .int .u8 0, .int .u8 0, .int .u8 0, .int .u8 0, .int .u8 0, .int .u8 0, .int .u8 0, .int .u8 0, .int .u8 0, .int .u8 0, .int .u8 0, .int .u8 0, .int .u8 0, .int .u8 0, .int .u8 0, .int .u8 0, .int .u8 0, .int .u8 0, .int .u8 0, .int .u8 0, .int .u8 0, .int .u8 0, .int .u8 0, .int .u8 0] := by
  have h1 : Value.int .u8 (i : Int) = u8v (UInt8.ofNat i) := by have := u8_val i 0; rw [IntKind.wrap_u8] at this; simp at this; rw [← this]; congr 1; omega
  have h2 : Value.int .u8 ((i : Int) / 256) = u8v (UInt8.ofNat (i / 256)) := by have := u8_val i 8; rw [IntKind.wrap_u8] at this; simp at this; rw [← this]; congr 1; omega
  rw [h1, h2]
  rfl

set_option maxRecDepth 100000 in
set_option maxHeartbeats 2000000 in
theorem Hashes_any (n : Nat) (hn : n ≤ 200) (w : World) : Calls Try.prog 17 #[.int .i64 n] w fun e w' => ∃ A c, e = .returned (.slice A n c) ∧ HMine w w' (.slice A n c) (hashesL n) := by
  have hni : (n : Int) ≤ 200 := by omega
  go_enter Try.func17, Try.ntmps17
  go_wp2_with fail
  go_loopw [3, 4] (fun v i wr => ∃ (k : Nat) (A : Option Addr) (c : Nat), k ≤ n ∧ i = .int .i64 k ∧ v = .slice A k c ∧ HMine w wr (.slice A k c) (hashesL k)) (fun _ i _ => n - (intOf i).toNat)
  case atStart => exact ⟨0, none, 0, by omega, rfl, rfl, HMine.nil (Turns.refl _ _)⟩
  case round =>
    obtain ⟨k, A, c, hk, rfl, rfl, m⟩ := hrel
    by_cases hlt : k < n
    · have hki : (k : Int) < (n : Int) := by omega
      obtain ⟨v2, w2, hr2, m2⟩ := hmine_push m (by rw [hashesL_len]; omega) (hash1 k) (hash1_len k) 23
      rw [← hashesL_step] at m2
      obtain ⟨A2, c2, rfl, _⟩ := m2.len
      rw [hashesL_len] at m2 hr2
      rw [hash1_cells k (by omega)] at hr2
      have HM := Lib.hid m2
      clear m2 m
      go_wp2_with (at_builtin; refine wpList_append_at rfl (.tmp 10) (.tmp 17) rfl hr2 rfl rfl ?_)
      clear hr2
      go_roundw
      case rel => exact ⟨k + 1, A2, c2, by omega, by go_num, rfl, HM.out⟩
      case measure => (simp [intOf] <;> omega)
    · obtain rfl : k = n := by omega
      have HM := Lib.hid m
      clear m
      go_wp2_with fail
      go_ret
      exact ⟨A, c, rfl, HM.out⟩

set_option maxRecDepth 100000 in
set_option maxHeartbeats 2000000 in
theorem hashes_any (xs ys : List (List UInt8)) (A A' : Option Addr) (n n' c c' B B' : Nat) (w : World) (hn : xs.length = n) (hn' : ys.length = n') (h : Hs w B (.slice A n c) xs) (h' : Hs w B' (.slice A' n' c') ys) (hm : n ≤ 1000000) (hm' : n' ≤ 1000000) :
    Calls Try.prog 20 #[.slice A n c, .slice A' n' c'] w fun e w' => e = .returned (.bool (xs == ys)) ∧ Turns [] w w' := by
  obtain ⟨res, hres⟩ : ∃ r, r = (xs == ys) := ⟨_, rfl⟩
  rw [← hres]
  have HR := Lib.hid hres
  clear hres
  have hmi : (n : Int) ≤ 1000000 := by omega
  have hmi' : (n' : Int) ≤ 1000000 := by omega
  by_cases hne : n = n'
  · subst hne
    have hz : (n != n) = false := by simp
    have HH := Lib.hid (And.intro (And.intro hn hn') (And.intro h h'))
    clear hn hn' h h' hm hm'
    go_enter Try.func20, Try.ntmps20
    go_wp2_with fail
    go_loopw [5] (fun i wr => ∃ k : Nat, k ≤ n ∧ i = .int .i64 k ∧ xs.take k = ys.take k ∧ Turns [] w wr) (fun i _ => n - (intOf i).toNat)
    case atStart => exact ⟨0, by omega, rfl, rfl, Turns.refl _ _⟩
    case round =>
      obtain ⟨k, hk, rfl, he, td⟩ := hrel
      by_cases hlt : k < n
      · have hki : (k : Int) < (n : Int) := by omega
        have hx : k < xs.length := by rw [HH.out.1.1]; exact hlt
        have hy : k < ys.length := by rw [HH.out.1.2]; exact hlt
        obtain ⟨b1, o1, rfl, hb1, r1a⟩ := HH.out.2.1.at_ (i := k) hx
        obtain ⟨b2, o2, rfl, hb2, r2a⟩ := HH.out.2.2.at_ (i := k) hy
        have r1 := rangeT td r1a (by simp)
        have r2 := rangeT td r2a (by simp)
        clear r1a r2a
        have hx32 := HH.out.2.1.all _ (List.getElem_mem hx)
        have hy32 := HH.out.2.2.all _ (List.getElem_mem hy)
        have hst : xs.take (k + 1) = xs.take k ++ [xs[k]] := List.take_succ_eq_append_getElem hx
        have hst' : ys.take (k + 1) = ys.take k ++ [ys[k]] := List.take_succ_eq_append_getElem hy
        have hget : xs == ys → xs[k] = ys[k] := by
          intro h
          have h := eq_of_beq h
          subst h
          rfl
        obtain ⟨x, hxe⟩ : ∃ x, x = xs[k] := ⟨_, rfl⟩
        obtain ⟨y, hye⟩ : ∃ y, y = ys[k] := ⟨_, rfl⟩
        rw [← hxe] at r1 hx32 hst hget
        rw [← hye] at r2 hy32 hst' hget
        clear hxe hye
        have hT : Turns [] wr wr.drew := (Turns.refl _ _).drew
        have R1 := Lib.hid r1
        have R2 := Lib.hid r2
        have HE := Lib.hid (And.intro he (And.intro hst (And.intro hst' hget)))
        have HT := Lib.hid td
        have hsx : (Try.prog.info? 27).map (·.size) = some (bvs x).length := by rw [size_hash, bvs_length, hx32]
        have hsy : (Try.prog.info? 27).map (·.size) = some (bvs y).length := by rw [size_hash, bvs_length, hy32]
        have HSX := Lib.hid hsx
        have HSY := Lib.hid hsy
        clear r1 r2 he hst hst' hget td hx hy hsx hsy hb1 hb2
        by_cases hxy : x = y
        · subst hxy
          have eq1 := eqlS x hx32
          clear hx32 hy32
          go_upto_region 6 with fail
          refine reg_begin (fun W => Turns [] wr W) (fun _ => True) 9 9 #[false, false, false, false, false, false, false, false, false] (by kernel_rfl) (by kernel_rfl) (by kernel_rfl) ?_
          refine reg_take 0 17 8 #[true, false, false, false, false, false, false, false, false] (by rfl) (v := ?_) rfl rfl (by kernel_rfl) (by kernel_rfl) (by kernel_rfl) (by kernel_rfl) (fun _ _ _ h => h) (by rfl) ?_ (Till.mk' hT trivial) ?_
          rotate_left
          · intro W hS; go_simp; all_goals with_reducible rfl
          try simp only [List.setIfInBounds_toArray, List.set_cons_succ, List.set_cons_zero]
          refine reg_take 1 18 7 #[true, true, false, false, false, false, false, false, false] (by rfl) (v := ?_) rfl rfl (by kernel_rfl) (by kernel_rfl) (by kernel_rfl) (by kernel_rfl) (fun _ _ _ h => h) (by rfl) ?_ (Till.mk' hT trivial) ?_
          rotate_left
          · intro W hS; go_simp; all_goals with_reducible rfl
          try simp only [List.setIfInBounds_toArray, List.set_cons_succ, List.set_cons_zero]
          refine reg_take 2 19 6 #[true, true, true, false, false, false, false, false, false] (by rfl) (v := ?_) rfl rfl (by kernel_rfl) (by kernel_rfl) (by kernel_rfl) (by kernel_rfl) (fun _ _ _ h => h) (by rfl) ?_ (Till.mk' hT trivial) ?_
          rotate_left
          · intro W hS; go_simp; all_goals with_reducible rfl
          try simp only [List.setIfInBounds_toArray, List.set_cons_succ, List.set_cons_zero]
          refine reg_take_y 3 20 5 #[true, true, true, true, false, false, false, false, false] (by rfl) rfl rfl (by kernel_rfl) (by kernel_rfl) (by kernel_rfl) (by kernel_rfl) (fun _ _ _ h => h) (yieldsIf_load_mid (by rfl) _ _ rfl b1 (o1 + k * 32) (by rfl) _ _ (fun W hS => rangeT hS R1.out (by simp)) Try.underlying27 rfl HSX.out) (Till.mk' hT trivial) ?_
          try simp only [List.setIfInBounds_toArray, List.set_cons_succ, List.set_cons_zero]
          refine reg_take 4 21 4 #[true, true, true, true, true, false, false, false, false] (by rfl) (v := ?_) rfl rfl (by kernel_rfl) (by kernel_rfl) (by kernel_rfl) (by kernel_rfl) (fun _ _ _ h => h) (by rfl) ?_ (Till.mk' hT trivial) ?_
          rotate_left
          · intro W hS; go_simp; all_goals with_reducible rfl
          try simp only [List.setIfInBounds_toArray, List.set_cons_succ, List.set_cons_zero]
          refine reg_take 5 22 3 #[true, true, true, true, true, true, false, false, false] (by rfl) (v := ?_) rfl rfl (by kernel_rfl) (by kernel_rfl) (by kernel_rfl) (by kernel_rfl) (fun _ _ _ h => h) (by rfl) ?_ (Till.mk' hT trivial) ?_
          rotate_left
          · intro W hS; go_simp; all_goals with_reducible rfl
          try simp only [List.setIfInBounds_toArray, List.set_cons_succ, List.set_cons_zero]
          refine reg_take 6 23 2 #[true, true, true, true, true, true, true, false, false] (by rfl) (v := ?_) rfl rfl (by kernel_rfl) (by kernel_rfl) (by kernel_rfl) (by kernel_rfl) (fun _ _ _ h => h) (by rfl) ?_ (Till.mk' hT trivial) ?_
          rotate_left
          · intro W hS; go_simp; all_goals with_reducible rfl
          try simp only [List.setIfInBounds_toArray, List.set_cons_succ, List.set_cons_zero]
          refine reg_take_y 7 24 1 #[true, true, true, true, true, true, true, true, false] (by rfl) rfl rfl (by kernel_rfl) (by kernel_rfl) (by kernel_rfl) (by kernel_rfl) (fun _ _ _ h => h) (yieldsIf_load_mid (by rfl) _ _ rfl b2 (o2 + k * 32) (by rfl) _ _ (fun W hS => rangeT hS R2.out (by simp)) Try.underlying27 rfl HSY.out) (Till.mk' hT trivial) ?_
          try simp only [List.setIfInBounds_toArray, List.set_cons_succ, List.set_cons_zero]
          refine reg_take 8 25 0 #[true, true, true, true, true, true, true, true, true] (by rfl) (v := ?_) rfl rfl (by kernel_rfl) (by kernel_rfl) (by kernel_rfl) (by kernel_rfl) (fun _ _ _ h => h) (by rfl) ?_ (Till.mk' hT trivial) ?_
          rotate_left
          · intro W hS; go_simp; all_goals with_reducible rfl
          try simp only [List.setIfInBounds_toArray, List.set_cons_succ, List.set_cons_zero]
          refine reg_done (by kernel_rfl) ?_ _
          have hS1 : Turns [] wr wr.drew := (Turns.refl _ _).drew
          go_wp2_with fail
          go_roundw
          case rel => exact ⟨k + 1, by omega, by go_num, by rw [HE.out.2.1, HE.out.2.2.1, HE.out.1], HT.out.trans hS1 (by simp)⟩
          case measure => (simp [intOf] <;> omega)
        · have eq1 := eqlH x y hx32 hy32
          rw [show (x == y) = false by simpa using hxy] at eq1
          have HXY := Lib.hid hxy
          clear hx32 hy32 hxy
          go_upto_region 6 with fail
          refine reg_begin (fun W => Turns [] wr W) (fun _ => True) 9 9 #[false, false, false, false, false, false, false, false, false] (by kernel_rfl) (by kernel_rfl) (by kernel_rfl) ?_
          refine reg_take 0 17 8 #[true, false, false, false, false, false, false, false, false] (by rfl) (v := ?_) rfl rfl (by kernel_rfl) (by kernel_rfl) (by kernel_rfl) (by kernel_rfl) (fun _ _ _ h => h) (by rfl) ?_ (Till.mk' hT trivial) ?_
          rotate_left
          · intro W hS; go_simp; all_goals with_reducible rfl
          try simp only [List.setIfInBounds_toArray, List.set_cons_succ, List.set_cons_zero]
          refine reg_take 1 18 7 #[true, true, false, false, false, false, false, false, false] (by rfl) (v := ?_) rfl rfl (by kernel_rfl) (by kernel_rfl) (by kernel_rfl) (by kernel_rfl) (fun _ _ _ h => h) (by rfl) ?_ (Till.mk' hT trivial) ?_
          rotate_left
          · intro W hS; go_simp; all_goals with_reducible rfl
          try simp only [List.setIfInBounds_toArray, List.set_cons_succ, List.set_cons_zero]
          refine reg_take 2 19 6 #[true, true, true, false, false, false, false, false, false] (by rfl) (v := ?_) rfl rfl (by kernel_rfl) (by kernel_rfl) (by kernel_rfl) (by kernel_rfl) (fun _ _ _ h => h) (by rfl) ?_ (Till.mk' hT trivial) ?_
          rotate_left
          · intro W hS; go_simp; all_goals with_reducible rfl
          try simp only [List.setIfInBounds_toArray, List.set_cons_succ, List.set_cons_zero]
          refine reg_take_y 3 20 5 #[true, true, true, true, false, false, false, false, false] (by rfl) rfl rfl (by kernel_rfl) (by kernel_rfl) (by kernel_rfl) (by kernel_rfl) (fun _ _ _ h => h) (yieldsIf_load_mid (by rfl) _ _ rfl b1 (o1 + k * 32) (by rfl) _ _ (fun W hS => rangeT hS R1.out (by simp)) Try.underlying27 rfl HSX.out) (Till.mk' hT trivial) ?_
          try simp only [List.setIfInBounds_toArray, List.set_cons_succ, List.set_cons_zero]
          refine reg_take 4 21 4 #[true, true, true, true, true, false, false, false, false] (by rfl) (v := ?_) rfl rfl (by kernel_rfl) (by kernel_rfl) (by kernel_rfl) (by kernel_rfl) (fun _ _ _ h => h) (by rfl) ?_ (Till.mk' hT trivial) ?_
          rotate_left
          · intro W hS; go_simp; all_goals with_reducible rfl
          try simp only [List.setIfInBounds_toArray, List.set_cons_succ, List.set_cons_zero]
          refine reg_take 5 22 3 #[true, true, true, true, true, true, false, false, false] (by rfl) (v := ?_) rfl rfl (by kernel_rfl) (by kernel_rfl) (by kernel_rfl) (by kernel_rfl) (fun _ _ _ h => h) (by rfl) ?_ (Till.mk' hT trivial) ?_
          rotate_left
          · intro W hS; go_simp; all_goals with_reducible rfl
          try simp only [List.setIfInBounds_toArray, List.set_cons_succ, List.set_cons_zero]
          refine reg_take 6 23 2 #[true, true, true, true, true, true, true, false, false] (by rfl) (v := ?_) rfl rfl (by kernel_rfl) (by kernel_rfl) (by kernel_rfl) (by kernel_rfl) (fun _ _ _ h => h) (by rfl) ?_ (Till.mk' hT trivial) ?_
          rotate_left
          · intro W hS; go_simp; all_goals with_reducible rfl
          try simp only [List.setIfInBounds_toArray, List.set_cons_succ, List.set_cons_zero]
          refine reg_take_y 7 24 1 #[true, true, true, true, true, true, true, true, false] (by rfl) rfl rfl (by kernel_rfl) (by kernel_rfl) (by kernel_rfl) (by kernel_rfl) (fun _ _ _ h => h) (yieldsIf_load_mid (by rfl) _ _ rfl b2 (o2 + k * 32) (by rfl) _ _ (fun W hS => rangeT hS R2.out (by simp)) Try.underlying27 rfl HSY.out) (Till.mk' hT trivial) ?_
          try simp only [List.setIfInBounds_toArray, List.set_cons_succ, List.set_cons_zero]
          refine reg_take 8 25 0 #[true, true, true, true, true, true, true, true, true] (by rfl) (v := ?_) rfl rfl (by kernel_rfl) (by kernel_rfl) (by kernel_rfl) (by kernel_rfl) (fun _ _ _ h => h) (by rfl) ?_ (Till.mk' hT trivial) ?_
          rotate_left
          · intro W hS; go_simp; all_goals with_reducible rfl
          try simp only [List.setIfInBounds_toArray, List.set_cons_succ, List.set_cons_zero]
          refine reg_done (by kernel_rfl) ?_ _
          have hS1 : Turns [] wr wr.drew := (Turns.refl _ _).drew
          go_wp2_with fail
          go_ret
          refine ⟨?_, HT.out.trans hS1 (by simp)⟩
          rw [HR.out]
          cases hb : (xs == ys) with
          | false => rfl
          | true => exact absurd (HE.out.2.2.2 hb) HXY.out
      · obtain rfl : k = n := by omega
        have HT := Lib.hid (And.intro he td)
        clear he td
        go_wp2_with fail
        go_ret
        refine ⟨?_, HT.out.2⟩
        have h1 := HT.out.1
        rw [List.take_of_length_le (by rw [HH.out.1.1]; omega), List.take_of_length_le (by rw [HH.out.1.2]; omega)] at h1
        rw [HR.out, h1]
        simp
  · have hz : (n != n') = true := by simpa using hne
    have HH := Lib.hid (And.intro hn hn')
    have HNE := Lib.hid hne
    have hz2 : ((n : Int) != (n' : Int)) = true := by simp; omega
    clear hn hn' h h' hm hm' hne
    go_enter Try.func20, Try.ntmps20
    go_wp2_with fail
    go_ret
    refine ⟨?_, Turns.refl _ _⟩
    rw [HR.out]
    cases hb : (xs == ys) with
    | false => rfl
    | true =>
      have h := eq_of_beq hb
      subst h
      exact absurd (HH.out.1.symm.trans HH.out.2) HNE.out
end Go.Proofs.Ytnjnealphbcamaa
