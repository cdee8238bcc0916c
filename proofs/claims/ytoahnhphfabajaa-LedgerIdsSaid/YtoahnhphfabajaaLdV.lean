/- LedgerIds, walked. -/
import Derived.Test.YtoahnhphfabajaaLdS
namespace Go.Proofs.Ytoahnhphfabajaa
open Go.RowKit
set_option linter.unusedVariables false
set_option maxRecDepth 10000
set_option linter.unusedSimpArgs false
set_option linter.unnecessarySimpa false

/-- A literal change, its row a literal too: they lie in two new blocks. -/
def idC (k : Int) : Chg := ⟨⟨#[120]⟩, 1, [⟨2, k, ⟨#[]⟩⟩]⟩
theorem idC_ok {k : Int} (hk : i64ok k) : ([idC k] : List Chg).length ≤ 1000 ∧ ∀ x ∈ [idC k], x.ok :=
  ⟨by simp, by
    intro x hx
    simp at hx
    subst hx
    refine ⟨by show (1 : Nat) ≤ 1000; omega, ⟨by show (-9223372036854775808 : Int) ≤ 1; omega, by show (1 : Int) ≤ _; omega⟩, by show (1 : Nat) ≤ 100; omega, ?_⟩
    intro v hv
    simp [idC] at hv
    subst hv
    exact ⟨⟨by show (-9223372036854775808 : Int) ≤ 2; omega, by show (2 : Int) ≤ _; omega⟩, hk, none_fits⟩⟩
theorem idC_deep (w : World) (k : Int) (x4 x5 : World) (h4 : x4 = w.alloc (.cells #[.int .i64 2, .int .i64 k, .string ⟨#[]⟩] 43)) (h5 : x5 = x4.alloc (.cells #[.string ⟨#[120]⟩, .int .i64 1, .slice (some ⟨w.heap.size, 0, none⟩) 1 1] 33)) :
    Deep ChgR x5 (fun _ => True) 3 (.slice (some ⟨x4.heap.size, 0, none⟩) 1 1) [idC k] ∧ Turns [] w x5 := by
  have t4 : Turns [] w x4 := by rw [h4]; exact (Turns.refl _ _).alloc _
  have t5 : Turns [] x4 x5 := by rw [h5]; exact (Turns.refl _ _).alloc _
  have b4 := Blk.new w [.int .i64 2, .int .i64 k, .string ⟨#[]⟩] 43
  rw [show w.alloc (.cells [.int .i64 2, .int .i64 k, .string ⟨#[]⟩].toArray 43) = x4 from h4.symm] at b4
  have b5 := Blk.new x4 [.string ⟨#[120]⟩, .int .i64 1, .slice (some ⟨w.heap.size, 0, none⟩) 1 1] 33
  rw [show x4.alloc (.cells [.string ⟨#[120]⟩, .int .i64 1, .slice (some ⟨w.heap.size, 0, none⟩) 1 1].toArray 33) = x5 from h5.symm] at b5
  have b45 := b4.turns t5 (by simp)
  refine ⟨Deep.mk' (css := [[.string ⟨#[120]⟩, .int .i64 1, .slice (some ⟨w.heap.size, 0, none⟩) 1 1]]) rfl (by intro x hx; simp at hx; subst hx; rfl) (fun i hi hi' => by
      obtain rfl : i = 0 := by simp at hi; omega
      exact ⟨_, rfl, ⟨rfl, _, _, rfl, Nat.le_refl _, by simp [maxLen], (fun h => by cases h), fun _ => ⟨w.heap.size, 0, rfl, ⟨trivial, b45.lt⟩, fun j u hu => by rw [Nat.zero_add, b45.cell]; exact hu⟩⟩⟩)
      ⟨rfl, _, _, rfl, Nat.le_refl _, by simp [maxLen], (fun h => by cases h), fun _ => ⟨x4.heap.size, 0, rfl, ⟨trivial, b5.lt⟩, fun j u hu => by rw [Nat.zero_add, b5.cell]; exact hu⟩⟩, t4.trans t5 (by simp)⟩
theorem flat_at : ∀ (l : List (List Txn)) (i j : Nat) (hi : i < l.length) (hj : j < l[i].length), l.flatten[(l.take i).flatten.length + j]? = some l[i][j]
  | [], i, _, hi, _ => by simp at hi
  | a :: l, 0, j, _, hj => by
    simp only [List.take_zero, List.flatten_nil, List.length_nil, Nat.zero_add, List.getElem_cons_zero, List.flatten_cons] at hj ⊢
    rw [List.getElem?_append_left hj, List.getElem?_eq_getElem hj]
  | a :: l, i + 1, j, hi, hj => by
    have hi' : i < l.length := by simpa using hi
    have hj' : j < l[i].length := by simpa using hj
    have := flat_at l i j hi' hj'
    simp only [List.take_succ_cons, List.flatten_cons, List.length_append, List.getElem_cons_succ]
    rw [List.getElem?_append_right (by omega), show a.length + (l.take i).flatten.length + j - a.length = (l.take i).flatten.length + j by omega]
    exact this
theorem Inv.id_at {L : Led} (h : Inv L) (i j : Nat) (hi : i < L.txs.length) (hj : j < L.txs[i].length) : L.txs[i][j].id = (((L.txs.take i).flatten.length + j : Nat) : Int) := by
  have h1 := flat_at L.txs i j hi hj
  have hlt : (L.txs.take i).flatten.length + j < L.txs.flatten.length := (List.getElem?_eq_some_iff.1 h1).1
  have h2 := h.id ((L.txs.take i).flatten.length + j) (by rw [List.length_append]; omega)
  rw [List.getElem_append_left hlt] at h2
  have h3 := (List.getElem?_eq_some_iff.1 h1).2
  rw [h3] at h2
  exact h2
theorem flat_step (l : List (List Txn)) (i : Nat) (hi : i < l.length) : (l.take (i + 1)).flatten.length = (l.take i).flatten.length + l[i].length := by
  rw [List.take_succ_eq_append_getElem hi, List.flatten_append, List.length_append]
  simp only [List.flatten_cons, List.flatten_nil, List.append_nil]
theorem flat_mono (l : List (List Txn)) (i : Nat) : (l.take i).flatten.length ≤ l.flatten.length := by
  have := congrArg List.length (congrArg List.flatten (List.take_append_drop i l))
  rw [List.flatten_append, List.length_append] at this
  omega
/-- What the loop holds: a ledger of k transactions. -/
def IdR (w2 wr : World) (p5 : Nat) (k : Nat) : Prop := ∃ (L : Led) (ov bv tv : Value), Blk wr p5 [.int .i64 L.next, ov, bv, tv] 57 ∧ LedR wr (fun b => p5 < b) ov bv tv L ∧ Inv L ∧ L.next = (k : Int) ∧ Turns [] w2 wr

set_option maxRecDepth 100000 in
set_option maxHeartbeats 16000000 in
theorem LedgerIds_walk (n0 : Int) (A : Option Addr) (nc cc : Nat) (cl : List Int) (w : World) (h0 : i64ok n0) (hcl : ∀ x ∈ cl, i64ok x) (hs : Sl w w.heap.size 1 (.slice A nc cc) nc (cl.map (Value.int .i64))) :
    Calls Try.prog 8 #[.int .i64 n0, .slice A nc cc] w fun e w' => e = .returned (.bool true) ∧ Below w.heap.size w w' := by
  obtain ⟨m, hm, hm30⟩ : ∃ m : Nat, (m : Int) = n0 % 30 ∧ m < 30 := ⟨(n0 % 30).toNat, by omega, by omega⟩
  have WI := fun W => within14_any n0 30 W h0.1 h0.2 (by omega) (by omega)
  rw [← hm] at WI
  have HWI := Lib.hid WI
  have KN := Lib.hid (known14_any w)
  have hcn : nc ≤ 9223372036854775807 := by
    obtain ⟨_, _, _, ee, h1, h2, _⟩ := hs
    injection ee with _ _ e3
    subst e3
    unfold maxLen at h2
    omega
  have HS := Lib.hid (And.intro hs hcl)
  clear WI hm h0 hs hcl
  go_enter Try.func8, Try.ntmps8
  go_wp2_with fail
  refine KN.out.mono ?_
  rintro e w2 ⟨rfl, t2⟩
  have HT2 := Lib.hid t2
  clear t2 KN
  go_wp2_with fail
  refine (HWI.out w2).mono ?_
  rintro e w3 ⟨rfl, rfl⟩
  obtain ⟨p5, hp5⟩ : ∃ x, x = w2.heap.size := ⟨_, rfl⟩
  obtain ⟨x3, hx3⟩ : ∃ x, x = w2.alloc (.cells #[.int .i64 0, .slice none 0 0, .slice none 0 0, .slice none 0 0] 57) := ⟨_, rfl⟩
  have b3 := Blk.new w2 [.int .i64 0, .slice none 0 0, .slice none 0 0, .slice none 0 0] 57
  rw [show w2.alloc (.cells [.int .i64 0, .slice none 0 0, .slice none 0 0, .slice none 0 0].toArray 57) = x3 from hx3.symm, ← hp5] at b3
  have t3 : Turns [] w2 x3 := by rw [hx3]; exact (Turns.refl _ _).alloc _
  have HK0 := Lib.hid (show IdR w2 x3 p5 0 from ⟨led0, _, _, _, b3, LedR.zero, inv0, rfl, t3⟩)
  have HX := Lib.hid (And.intro hx3 hp5)
  clear hp5 hx3 b3 t3 HWI
  go_upto_region 5 with fail
  rw [← HX.out.1, ← HX.out.2]
  go_wp2_with fail
  go_loopw [6, 7, 8, 9] (fun i u v y wr => ∃ k : Nat, k ≤ m ∧ i = .int .i64 k ∧ IdR w2 wr p5 k) (fun i _ _ _ _ => m - (intOf i).toNat)
  case atStart => exact ⟨0, by omega, rfl, HK0.out⟩
  case round =>
    obtain ⟨k, hk, rfl, L, ov, bv, tv, bk, lk, inv, hnx, tk⟩ := hrel
    obtain ⟨A1, c1, rfl, _⟩ := lk.opn.form
    obtain ⟨A2, c2, rfl, _⟩ := lk.blks.form'
    obtain ⟨A3, c3, rfl, _⟩ := lk.txs.form
    by_cases hlt : k < m
    · have hki : (k : Int) < (m : Int) := by omega
      have r1 := bk.all
      have hz1 := size_led (.int .i64 L.next) (.slice A1 L.opn.length c1) (.slice A2 L.blks.length c2) (.slice A3 L.txs.length c3)
      obtain ⟨x4, hx4⟩ : ∃ x, x = wr.alloc (.cells #[.int .i64 2, .int .i64 (k : Int), .string ⟨#[]⟩] 43) := ⟨_, rfl⟩
      obtain ⟨x5, hx5⟩ : ∃ x, x = x4.alloc (.cells #[.string ⟨#[120]⟩, .int .i64 1, .slice (some ⟨wr.heap.size, 0, none⟩) 1 1] 33) := ⟨_, rfl⟩
      obtain ⟨dc, t45⟩ := idC_deep wr k x4 x5 hx4 hx5
      have hs4 : x4.heap.size = wr.heap.size + 1 := by rw [hx4]; simp
      rw [hs4] at dc
      have hkok : i64ok (k : Int) := ⟨by omega, by omega⟩
      have AD := Lib.hid (Add_any L inv.ok (inv.room (by omega)) [idC k] (idC_ok hkok) _ _ _ _ _ _ x5 (lk.keep (t45.keeps0 _)) dc)
      have hinv := inv.add (idC_ok hkok) (by omega)
      have HX5 := Lib.hid (And.intro hx4 hx5)
      have H5 := Lib.hid (And.intro bk (And.intro t45 (And.intro tk (And.intro hinv (And.intro hnx bk.lt)))))
      clear hx4 hx5 dc t45 hs4 hinv lk bk tk inv hnx hkok
      go_wp2_with (first
        | (refine wpList_load_mid rfl 57 (.tmp 5) rfl p5 0 rfl _ _ r1 Try.underlying57 rfl hz1 ?_)
        | fail)
      rw [← HX5.out.1, ← HX5.out.2]
      refine AD.out.mono ?_
      rintro e x6 ⟨ov', bv', tv', cv', rfl, l6, d6, t6⟩
      obtain ⟨A7, c7, rfl, _⟩ := l6.opn.form
      obtain ⟨A8, c8, rfl, _⟩ := l6.blks.form'
      obtain ⟨A9, c9, rfl, _⟩ := l6.txs.form
      obtain ⟨Ac, cd, rfl, _⟩ := d6.form
      obtain ⟨L6, hL6⟩ : ∃ x, x = addLed L [idC (k : Int)] := ⟨_, rfl⟩
      have hn6 : (addLed L [idC (k : Int)]).next = (k : Int) + 1 := by rw [addLed_next, H5.out.2.2.2.2.1]
      rw [← hL6] at l6 hn6 ⊢
      have inv6 : Inv L6 := by rw [hL6]; exact H5.out.2.2.2.1
      rw [hn6, H5.out.2.2.2.2.1]
      have ho4 : L6.opn.length < 4 := by have := inv6.o3; omega
      have ho4i : ¬ (4 : Int) ≤ (L6.opn.length : Int) := by omega
      have hz6 := size_led (.int .i64 ((k : Int) + 1)) (.slice A7 L6.opn.length c7) (.slice A8 L6.blks.length c8) (.slice A9 L6.txs.length c9)
      have hz7 := size_tx (k : Int) (.slice Ac ([idC (k : Int)] : List Chg).length cd)
      obtain ⟨y2, hy2⟩ : ∃ x, x = (x6.alloc (.cells #[.int .i64 0, .slice none 0 0, .slice none 0 0, .slice none 0 0] 57)).alloc (.cells #[.int .i64 0, .slice none 0 0] 24) := ⟨_, rfl⟩
      have b7 := (Blk.new x6 [.int .i64 0, .slice none 0 0, .slice none 0 0, .slice none 0 0] 57).alloc (.cells #[.int .i64 0, .slice none 0 0] 24)
      rw [show (x6.alloc (.cells [.int .i64 0, .slice none 0 0, .slice none 0 0, .slice none 0 0].toArray 57)).alloc (.cells #[.int .i64 0, .slice none 0 0] 24) = y2 from hy2.symm] at b7
      have b8 := Blk.new (x6.alloc (.cells #[.int .i64 0, .slice none 0 0, .slice none 0 0, .slice none 0 0] 57)) [.int .i64 0, .slice none 0 0] 24
      rw [show (x6.alloc (.cells #[.int .i64 0, .slice none 0 0, .slice none 0 0, .slice none 0 0] 57)).alloc (.cells [.int .i64 0, .slice none 0 0].toArray 24) = y2 from hy2.symm] at b8
      have ty : Turns [] x6 y2 := by rw [hy2]; exact ((Turns.refl _ _).alloc _).alloc _
      obtain ⟨p7, hp7⟩ : ∃ x, x = x6.heap.size := ⟨_, rfl⟩
      rw [show (x6.alloc (.cells #[.int .i64 0, .slice none 0 0, .slice none 0 0, .slice none 0 0] 57)).heap.size = x6.heap.size + 1 by simp, ← hp7] at b8
      rw [← hp7] at b7
      have h57 : p5 < p7 := by have := H5.out.2.2.2.2.2; have := H5.out.2.1.size; have := t6.size; omega
      have tx6 := (H5.out.2.1.trans t6 (by simp)).trans ty (by simp)
      have HB := Lib.hid (And.intro b7 (And.intro b8 (And.intro (H5.out.1.turns tx6 (by simp)) (And.intro tx6 (And.intro ((l6.mono (S' := fun b => p5 < b ∧ b ≠ p7 ∧ b ≠ p7 + 1) (fun j hj hj' => ⟨by have := H5.out.2.2.2.2.2; have := H5.out.2.1.size; omega, by omega, by omega⟩)).keep (ty.keeps0 _)) (And.intro inv6 (And.intro hn6 (And.intro h57 t6.size))))))))
      have HY := Lib.hid (And.intro hy2 hp7)
      clear hL6 hn6 l6 d6 t6 inv6 b7 b8 ty hy2 hp7 h57 tx6 AD r1 hz1
      go_upto_region 10 with (first
        | (rw [← HY.out.1]; refine wpList_store_blk rfl 57 (.tmp 7) (.tmp 33) rfl p7 (by rw [HY.out.2]; kernel_rfl) [.int .i64 ((k : Int) + 1), .slice A7 L6.opn.length c7, .slice A8 L6.blks.length c8, .slice A9 L6.txs.length c9] _ 57 (by kernel_rfl) HB.out.1 rfl hz6 (by intro u hu; simp at hu; rcases hu with rfl | rfl | rfl | rfl <;> rfl) (fun w7 hb9 ht9 hs9 => ?_); have HB7 := Lib.hid (And.intro hb9 ht9); clear hb9 ht9 hs9)
        | (refine wpList_store_blk rfl 24 (.tmp 8) (.tmp 34) rfl (p7 + 1) (by rw [HY.out.2]; kernel_rfl) [.int .i64 (k : Int), .slice Ac 1 cd] _ 24 (by kernel_rfl) (HB.out.2.1.turns HB7.out.2 (by simp)) rfl hz7 (by intro u hu; simp at hu; rcases hu with rfl | rfl <;> rfl) (fun w8 hb9 ht9 hs9 => ?_); have HB8 := Lib.hid (And.intro hb9 ht9); clear hb9 ht9 hs9)
        | (refine wpList_store_blk rfl 57 (.tmp 5) (.tmp 35) rfl p5 (by kernel_rfl) [.int .i64 ((k : Int) + 1), .slice A7 L6.opn.length c7, .slice A8 L6.blks.length c8, .slice A9 L6.txs.length c9] _ 57 (by kernel_rfl) ((HB.out.2.2.1.turns HB7.out.2 (by have := HB.out.2.2.2.2.2.2.2.1; simp; omega)).turns HB8.out.2 (by have := HB.out.2.2.2.2.2.2.2.1; simp; omega)) rfl hz6 (by intro u hu; simp at hu; rcases hu with rfl | rfl | rfl | rfl <;> rfl) (fun w9 hb9 ht9 hs9 => ?_); have HB9 := Lib.hid (And.intro hb9 ht9); clear hb9 ht9 hs9)
        | (refine wpList_load_mid rfl 57 (.tmp 7) rfl p7 0 (by rw [HY.out.2]; kernel_rfl) _ _ ((HB7.out.1.turns HB8.out.2 (by simp)).all) Try.underlying57 rfl hz6 ?_)
        | fail)
      have h57 := HB.out.2.2.2.2.2.2.2.1
      have e0 := (HB8.out.1.turns HB9.out.2 (by simp; omega)).cell 0
      have f0 := HB9.out.1.cell 0
      have f1 := HB9.out.1.cell 1
      simp only [List.getElem?_cons_zero, List.getElem?_cons_succ] at e0 f0 f1
      rw [HY.out.2] at e0
      have t69 : Turns [p5, p7, p7 + 1] y2 w9 := ((HB7.out.2.mono (by simp)).trans (HB8.out.2.mono (L' := [p5, p7, p7 + 1]) (by simp)) (fun x hx => .inl hx)).trans HB9.out.2 (fun x hx => .inl (by simp at hx; simp [hx]))
      have HK1 := Lib.hid (show IdR w2 w9 p5 (k + 1) from ⟨L6, _, _, _, by rw [show (L6.next : Int) = (k : Int) + 1 from HB.out.2.2.2.2.2.2.1]; exact HB9.out.1,
        HB.out.2.2.2.2.1.keep (t69.keepsB _ (by intro x hx _ h; simp at hx; omega)) |>.mono (fun j _ hj => hj.1), HB.out.2.2.2.2.2.1, by rw [HB.out.2.2.2.2.2.2.1]; simp, (H5.out.2.2.1.trans HB.out.2.2.2.1 (by simp)).trans t69 (by intro x hx; simp at hx; have := H5.out.2.2.2.2.2; exact .inr (by have := HX.out.2; have := H5.out.2.2.1.size; omega))⟩)
      try simp only [Act.put, List.setIfInBounds_toArray, List.set_cons_succ, List.set_cons_zero]
      clear h57 t69
      go_wp2_with fail
      clear e0 f0 f1
      go_loopw [9] (fun i wr => ∃ j : Nat, j ≤ nc ∧ i = .int .i64 j ∧ IdR w2 wr p5 (k + 1)) (fun i _ => nc - (intOf i).toNat)
      case atStart => exact ⟨0, by omega, rfl, HK1.out⟩
      case round =>
        clear HB HY HB7 HB8 HB9 hz6 hz7 ho4 ho4i H5
        obtain ⟨j, hj, rfl, L, ov, bv, tv, bk, lk, inv, hnx, tk⟩ := hrel
        obtain ⟨B1, d1, rfl, _⟩ := lk.opn.form
        obtain ⟨B2, d2, rfl, _⟩ := lk.blks.form'
        obtain ⟨B3, d3, rfl, _⟩ := lk.txs.form
        have HIR := Lib.hid (show IdR w2 wr p5 (k + 1) from ⟨L, _, _, _, bk, lk, inv, hnx, tk⟩)
        by_cases hjn : j < nc
        · have hji : (j : Int) < (nc : Int) := by omega
          by_cases hj5 : j < 5
          · have hj5i : (j : Int) < 5 := by omega
            obtain ⟨b, off, u, rfl, hb, hu, hc⟩ := cell1T HS.out.1 j hjn
            have hjl : j < cl.length := by have := (List.getElem?_eq_some_iff.1 hu).1; simpa using this
            rw [List.getElem?_map, List.getElem?_eq_getElem hjl, Option.map_some] at hu
            injection hu with hu
            have hok := HS.out.2 _ (List.getElem_mem hjl)
            obtain ⟨x, hx⟩ : ∃ x, x = cl[j] := ⟨_, rfl⟩
            rw [← hx] at hu hok
            subst hu
            have q0 := cellV (HT2.out.trans tk (by simp)) hc
            have WJ := Lib.hid (within14_any x 30 wr hok.1 hok.2 (by omega) (by omega))
            have HBK := Lib.hid (And.intro bk (And.intro lk (And.intro inv (And.intro hnx tk))))
            clear hx hc hb bk lk inv tk hok
            go_wp2_with fail
            refine WJ.out.mono ?_
            rintro e w5 ⟨rfl, rfl⟩
            by_cases heq : x % 30 = (k : Int)
            · have heqb : (x % 30 == (k : Int)) = true := beq_iff_eq.2 heq
              have hz1 := size_led (.int .i64 L.next) (.slice B1 L.opn.length d1) (.slice B2 L.blks.length d2) (.slice B3 L.txs.length d3)
              have r1 := HBK.out.1.all
              have CL : Calls Try.prog 33 #[.agg #[.int .i64 L.next, .slice B1 L.opn.length d1, .slice B2 L.blks.length d2, .slice B3 L.txs.length d3]] wr fun e w' => ∃ (L2 : Led) (ov' bv' tv' : Value) (er : Int), e = .returned (.tuple #[.agg #[.int .i64 L2.next, ov', bv', tv'], .int .i64 er]) ∧ LedR w' (fun b => wr.heap.size ≤ b) ov' bv' tv' L2 ∧ Turns [] wr w' ∧ Inv L2 ∧ L2.next = (((k + 1 : Nat)) : Int) := by
                by_cases h0 : 0 < L.opn.length
                · exact (Close_any L HBK.out.2.2.1.ok (HBK.out.2.2.1.room (by omega)).2.2 h0 _ _ _ _ wr HBK.out.2.1).mono fun e w' ⟨a, b, c, he, hl, ht⟩ => ⟨closeL L, a, b, c, 0, he, hl, ht, HBK.out.2.2.1.close h0 (by omega), hnx⟩
                · have h0' : L.opn = [] := List.eq_nil_of_length_eq_zero (by omega)
                  exact (Close_none L HBK.out.2.2.1.ok h0' _ _ _ _ wr HBK.out.2.1).mono fun e w' ⟨a, b, c, he, hl, ht⟩ => ⟨L, a, b, c, 2, he, hl, ht, HBK.out.2.2.1, hnx⟩
              have HCL := Lib.hid CL
              clear CL heq q0 hnx
              go_wp2_with (first
                | (refine wpList_load_mid rfl 57 (.tmp 5) rfl p5 0 rfl _ _ r1 Try.underlying57 rfl hz1 ?_)
                | fail)
              refine HCL.out.mono ?_
              rintro e x7 ⟨L2, ov', bv', tv', er, rfl, l7, t7, inv7, hn7⟩
              obtain ⟨A7, c7, rfl, _⟩ := l7.opn.form
              obtain ⟨A8, c8, rfl, _⟩ := l7.blks.form'
              obtain ⟨A9, c9, rfl, _⟩ := l7.txs.form
              have hz7 := size_led (.int .i64 L2.next) (.slice A7 L2.opn.length c7) (.slice A8 L2.blks.length c8) (.slice A9 L2.txs.length c9)
              have HB7 := Lib.hid (And.intro (HBK.out.1.turns t7 (by simp)) (And.intro l7 (And.intro t7 (And.intro inv7 hn7))))
              clear l7 t7 inv7 hn7 r1 HCL
              go_wp2_with (first
                | (refine wpList_store_blk rfl 57 (.tmp 5) (.tmp 73) rfl p5 (by kernel_rfl) [.int .i64 L2.next, .slice A7 L2.opn.length c7, .slice A8 L2.blks.length c8, .slice A9 L2.txs.length c9] _ 57 (by kernel_rfl) HB7.out.1 rfl hz7 (by intro u hu; simp at hu; rcases hu with rfl | rfl | rfl | rfl <;> rfl) (fun w9 hb9 ht9 hs9 => ?_); have HQ9 := Lib.hid (And.intro hb9 ht9); clear hb9 ht9 hs9)
                | fail)
              have HKN := Lib.hid (show IdR w2 w9 p5 (k + 1) by
                have hl := HBK.out.1.lt
                have hp := HX.out.2
                have hs := HBK.out.2.2.2.2.size
                exact ⟨L2, _, _, _, HQ9.out.1, (HB7.out.2.1.mono (S' := fun b => p5 < b) (fun i _ hi => by omega)).keep (HQ9.out.2.keepsB _ (by intro x hx _ h; simp at hx; omega)), HB7.out.2.2.2.1, HB7.out.2.2.2.2, (HBK.out.2.2.2.2.trans HB7.out.2.2.1 (by simp)).trans HQ9.out.2 (by intro x hx; simp at hx; exact .inr (by omega))⟩)
              go_roundw
              case rel => exact ⟨j + 1, by omega, by go_num, HKN.out⟩
              case measure => (simp [intOf] <;> omega)
            · have heqb : (x % 30 == (k : Int)) = false := beq_eq_false_iff_ne.2 heq
              clear heq q0
              go_wp2_with fail
              go_roundw
              case rel => exact ⟨j + 1, by omega, by go_num, HIR.out⟩
              case measure => (simp [intOf] <;> omega)
          · have hj5i : ¬ (j : Int) < 5 := by omega
            clear bk lk inv tk
            go_wp2_with fail
            go_roundw
            case rel => exact ⟨k + 1, by omega, by go_num, HIR.out⟩
            case measure => (simp [intOf] <;> omega)
        · have hji : ¬ (j : Int) < (nc : Int) := by omega
          clear bk lk inv tk
          go_wp2_with fail
          go_roundw
          case rel => exact ⟨k + 1, by omega, by go_num, HIR.out⟩
          case measure => (simp [intOf] <;> omega)
    · obtain rfl : k = m := by omega
      have bkT := bk
      have c1x := bk.cell 1
      have c3x := bk.cell 3
      simp only [List.getElem?_cons_zero, List.getElem?_cons_succ] at c1x c3x
      obtain ⟨nT, hnT⟩ : ∃ x, x = L.txs.length := ⟨_, rfl⟩
      obtain ⟨nO, hnO⟩ : ∃ x, x = L.opn.length := ⟨_, rfl⟩
      rw [← hnT] at c3x
      rw [← hnO] at c1x
      have hn1 : nT ≤ 1000 := by rw [hnT]; have := inv.few; rw [hnx] at this; omega
      have hn2 : nO ≤ 3 := by rw [hnO]; exact inv.o3
      have hsum : L.txs.flatten.length + nO = k := by have := inv.ln; rw [hnx] at this; omega
      have HL := Lib.hid (And.intro inv (And.intro lk (And.intro hnT (And.intro hnO (HT2.out.trans tk (by simp))))))
      have HSUM := Lib.hid hsum
      obtain ⟨wx, hwx⟩ : ∃ x, x = wr := ⟨_, rfl⟩
      rw [← hwx] at HL c1x c3x ⊢
      clear inv lk hnx bk bkT tk hnT hnO hsum hwx
      have CN := Lib.hid (Close_none led0 led0_ok rfl (.slice none 0 0) (.slice none 0 0) (.slice none 0 0) (fun _ => True) wx LedR.zero)
      go_wp2_with fail
      go_loopw [10, 11, 12] (fun d i j wr => ∃ k : Nat, k ≤ nT ∧ i = .int .i64 k ∧ d = .int .i64 (((L.txs.take k).flatten.length : Nat) : Int) ∧ wx = wr) (fun _ i _ _ => nT - (intOf i).toNat)
      case atStart => exact ⟨0, by omega, rfl, rfl, rfl⟩
      case round =>
        obtain ⟨i, hi, rfl, rfl, rfl⟩ := hrel
        by_cases hlt : i < nT
        · have hki : (i : Int) < (nT : Int) := by omega
          have hkl : i < L.txs.length := by have := HL.out.2.2.1; omega
          obtain ⟨b0, off0, cc0, cs0, hv0, _, _, _, rg0, xv, rfl, hx0⟩ := HL.out.2.1.txs.at_ (by omega) i hkl
          injection hv0 with e1 e2 e3
          subst e1 e3
          clear e2
          have q0 := rg0 0 _ rfl
          rw [Nat.mul_one, Nat.add_zero] at q0
          have hlen := HL.out.1.ne _ (List.getElem_mem hkl)
          have hid := fun j (hj : j < L.txs[i].length) => HL.out.1.id_at i j hkl hj
          have hstep := flat_step L.txs i hkl
          have hm := flat_mono L.txs i
          have hk30 : (L.txs.take i).flatten.length ≤ 30 := by have := HSUM.out; omega
          obtain ⟨l, hl⟩ : ∃ l, l = L.txs[i] := ⟨_, rfl⟩
          rw [← hl] at hx0 hlen hstep
          have hid' : ∀ j (hj : j < l.length), l[j].id = (((L.txs.take i).flatten.length + j : Nat) : Int) := by
            intro j hj
            subst hl
            exact hid j hj
          obtain ⟨Ax, cx, rfl, _⟩ := hx0.form
          obtain ⟨nl, hnl⟩ : ∃ x, x = l.length := ⟨_, rfl⟩
          rw [← hnl] at q0 hlen hstep
          obtain ⟨bs, hbs⟩ : ∃ x, x = (L.txs.take i).flatten.length := ⟨_, rfl⟩
          rw [← hbs] at hid' hstep hk30 ⊢
          have HX0 := Lib.hid (And.intro hx0 (And.intro hid' (And.intro hnl hstep)))
          clear hl rg0 hx0 hid hid' hnl hstep hm hbs
          go_wp2_with fail
          go_loopw [10, 12] (fun d j wr => ∃ h : Nat, h ≤ nl ∧ j = .int .i64 h ∧ d = .int .i64 ((bs : Int) + h) ∧ wx = wr) (fun _ j _ => nl - (intOf j).toNat)
          case atStart => exact ⟨0, by omega, rfl, by simp, rfl⟩
          case round =>
            obtain ⟨h, hh, rfl, rfl, rfl⟩ := hrel
            by_cases hlt2 : h < nl
            · have hii : (h : Int) < (nl : Int) := by omega
              have hil : h < l.length := by have := HX0.out.2.2.1; omega
              obtain ⟨b1, off1, cc1, cs1, hv1, _, _, _, rg1, cv1, rfl, hx1⟩ := HX0.out.1.at_ (by omega) h hil
              injection hv1 with e1 e2 e3
              subst e1 e3
              clear e2
              have q1 := rg1 0 _ rfl
              rw [HX0.out.2.1 h hil, Nat.add_zero] at q1
              have hcast : ((bs + h : Nat) : Int) = (bs : Int) + h := by omega
              rw [hcast] at q1
              have hw1 : IntKind.i64.wrap ((bs : Int) + h + 1) = (bs : Int) + h + 1 := IntWalk.i64_in _ (by omega)
              clear hx1 rg1 hcast
              go_wp2_with fail
              go_roundw
              case rel => exact ⟨h + 1, by omega, by go_num, by first | (congr 1; omega) | go_num, by first | rfl | trivial⟩
              case measure => (simp [intOf] <;> omega)
            · obtain rfl : h = nl := by omega
              have hst := HX0.out.2.2.2
              go_wp2_with fail
              go_roundw
              case rel => exact ⟨i + 1, by omega, by go_num, by rw [hst]; simp, by first | rfl | trivial⟩
              case measure => (simp [intOf] <;> omega)
        · obtain rfl : i = nT := by omega
          rw [List.take_of_length_le (by have := HL.out.2.2.1; omega)]
          obtain ⟨fl, hfl⟩ : ∃ x, x = L.txs.flatten.length := ⟨_, rfl⟩
          rw [← hfl]
          have hsum := HSUM.out
          rw [← hfl] at hsum
          have hseq : (((fl : Int) + (nO : Int)) == (k : Int)) = true := beq_iff_eq.2 (by omega)
          have HCN := Lib.hid (show Calls Try.prog 33 #[.agg #[.int .i64 0, .slice none 0 0, .slice none 0 0, .slice none 0 0]] wx _ from CN.out)
          clear hfl hsum CN
          go_wp2_with fail
          refine HCN.out.mono ?_
          rintro e x7 ⟨ov7, bv7, tv7, rfl, l7, t7⟩
          obtain ⟨A7, c7, rfl, _⟩ := l7.opn.form
          obtain ⟨A8, c8, rfl, _⟩ := l7.blks.form'
          obtain ⟨A9, c9, rfl, _⟩ := l7.txs.form
          have H7 := Lib.hid t7
          clear l7 t7 HCN
          go_upto_region 28 with fail
          obtain ⟨y, hy⟩ : ∃ x, x = x7.alloc (.cells #[.int .i64 led0.next, .slice A7 led0.opn.length c7, .slice A8 led0.blks.length c8, .slice A9 led0.txs.length c9] 57) := ⟨_, rfl⟩
          have ty : Turns [] x7 y := by rw [hy]; exact (Turns.refl _ _).alloc _
          have c1y := cellV (H7.out.trans ty (by simp)) c1x
          have HEND := Lib.hid (below_of' (HL.out.2.2.2.2.trans (H7.out.trans ty (by simp)) (by simp)))
          have HY := Lib.hid hy
          clear hy ty c1x c3x
          rw [← HY.out]
          have hw2 : IntKind.i64.wrap ((fl : Int) + (nO : Int)) = (fl : Int) + (nO : Int) := IntWalk.i64_in _ (by have := HSUM.out; have := beq_iff_eq.1 hseq; omega)
          go_wp2_with fail
          go_ret
          exact ⟨rfl, HEND.out⟩
end Go.Proofs.Ytoahnhphfabajaa
