/- The law's Good: a valid schema, of a raw one. -/
import Derived.Test.YtdllgnccjejhiaaFew
import Derived.Test.YtdllgnccjejhiaaWithinL
import Derived.Test.YtdllgnccjejhiaaSRows1
import Derived.Test.YtdllgnccjejhiaaSNames
import Derived.Deep.DeepCutAuto
namespace Go.Proofs.Ytdllgnccjejhiaa
open Go.RowKit
set_option linter.unusedVariables false
set_option maxRecDepth 10000
set_option linter.unusedSimpArgs false
set_option linter.unnecessarySimpa false

theorem zero30 (w : World) : (zeroValue 30).run Try.prog w = .ok (.agg #[.string ⟨#[]⟩, .slice none 0 0, .int .i64 0, .bool false]) w := by kernel_rfl
/-- A text of one byte that lies in a block. -/
theorem conv_at {W : World} {p m : Nat} (h : Blk W p [.int .u8 (97 + (m : Int))] 5) (hm : m < 26) : (convert 35 9 (.slice (some ⟨p, 0, none⟩) 1 1)).run Try.prog W = .ok (.string (strOf [byteOf (97 + m)])) W := by
  have e : [Value.int .u8 (97 + (m : Int))] = bvs [byteOf (97 + m)] := by
    unfold bvs u8v
    rw [List.map_cons, List.map_nil, byteOf_toNat _ (by omega)]
    congr 2
  rw [e] at h
  have hs := h.sl 0 1 1 1 (by simp [bvs]) (Nat.le_refl _) (by simp [maxLen])
  rw [List.drop_zero, List.take_of_length_le (by simp [bvs])] at hs
  exact conv_str hs Try.underlying35 Try.underlying5 Try.underlying9

def goodL (s : Sch) : Nat := if s.cols.length = 0 then 1 else min s.cols.length 6
theorem goodL_pos (s : Sch) : 0 < goodL s := by unfold goodL; split <;> omega
theorem goodL_le (s : Sch) : goodL s ≤ 6 := by unfold goodL; split <;> omega
theorem goodL_lt (s : Sch) (k : Nat) : k < goodL s ↔ k < 1 ∨ (k < s.cols.length ∧ k < 6) := by unfold goodL; split <;> omega
def goodCol (s : Sch) (i : Nat) : Col := match s.cols[i]? with
  | some c => ⟨strOf [byteOf (97 + i)], 1 + c.kind % 3, c.null⟩
  | none => ⟨strOf [byteOf (97 + i)], 2, false⟩
def goodCols (s : Sch) (k : Nat) : List Col := (List.range k).map (goodCol s)
theorem goodCols_succ (s : Sch) (k : Nat) : goodCols s (k + 1) = goodCols s k ++ [goodCol s k] := by unfold goodCols; rw [List.range_succ, List.map_append]; rfl
theorem goodCols_len (s : Sch) (k : Nat) : (goodCols s k).length = k := by simp [goodCols]
def goodKey (s : Sch) : Nat := (s.key % (goodL s : Int)).toNat
/-- A column where nothing may be missing. -/
def clr (c : Col) : Col := ⟨c.name, c.kind, false⟩
def goodS (s : Sch) (n : Int) : Sch := ⟨⟨#[113]⟩ ++ strOf [byteOf (97 + (n % 26).toNat)], (goodCols s (goodL s)).set (goodKey s) (clr ((goodCols s (goodL s)).getD (goodKey s) ⟨⟨#[]⟩, 0, false⟩)), goodKey s, s.only⟩

theorem colCells_app (a b : List Col) : colCells (a ++ b) = colCells a ++ colCells b := by unfold colCells; rw [List.flatMap_append]
theorem own_t0 {w w' : World} {base : Nat} {e : TypeId} {size n : Nat} {v : Value} {xs : List Value} (h : w.ownsRow base e size v n xs) (t : Turns [] w w') : w'.ownsRow base e size v n xs := by
  obtain ⟨h1, h2⟩ := h
  refine ⟨h1, ?_⟩
  rcases h2 with h2 | ⟨g, cap, cur, hv, hg, hh, r⟩
  · exact Or.inl h2
  · refine Or.inr ⟨g, cap, cur, hv, hg, ?_, r⟩
    rw [t.block g (Array.getElem?_eq_some_iff.1 hh).1 (by simp)]
    exact hh

theorem colCells_set : ∀ (l : List Col) (q : Nat) (c : Col), q < l.length → (colCells l).set (q * 3 + 2) (.bool false) = colCells (l.set q (clr (l.getD q c)))
  | [], q, c, h => by simp at h
  | a :: l, 0, c, h => rfl
  | a :: l, q + 1, c, h => by
    rw [show (q + 1) * 3 + 2 = q * 3 + 2 + 1 + 1 + 1 by omega]
    have ih := colCells_set l q c (by simpa using h)
    show Value.string a.name :: Value.int .i64 a.kind :: Value.bool a.null :: (colCells l).set (q * 3 + 2) (.bool false) = Value.string a.name :: Value.int .i64 a.kind :: Value.bool a.null :: colCells (l.set q (clr (l.getD q c)))
    rw [ih]
theorem cellTL {L : List Nat} {a w : World} (h : Turns L a w) {p : Addr} {v : Value} (hc : a.cell? p = some v) (hp : p.block ∉ L) : w.cell? p = some v :=
  (World.cell?_of_block (h.block p.block (World.block_lt_of_cell? a p hc) hp)).trans hc

set_option maxRecDepth 100000 in
set_option maxHeartbeats 4000000 in
theorem Good_any (s : Sch) (A : Option Addr) (n c : Nat) (z : Int) (B : Nat) (w : World) (hz : -9223372036854775808 ≤ z ∧ z ≤ 9223372036854775807) (hf : s.fits) (hky : -9223372036854775808 ≤ s.key ∧ s.key ≤ 9223372036854775807) (hkd : ∀ c ∈ s.cols, -9223372036854775808 ≤ c.kind ∧ c.kind ≤ 9223372036854775807) (hs : Sl w B 3 (.slice A n c) n (colCells s.cols)) (hB : B ≤ w.heap.size) :
    Calls Try.prog 16 #[.agg #[.string s.name, .slice A n c, .int .i64 s.key, .bool s.only], .int .i64 z] w fun e w' => ∃ g cg, e = .returned (.agg #[.string (goodS s z).name, .slice (some ⟨g, 0, none⟩) (goodL s) cg, .int .i64 (goodKey s : Nat), .bool s.only]) ∧ w'.ownsRow w.heap.size 27 3 (.slice (some ⟨g, 0, none⟩) (goodL s) cg) (goodL s) (colCells (goodS s z).cols) ∧ Turns [] w w' := by
  have hl := hs.1
  rw [colCells_length] at hl
  obtain rfl : n = s.cols.length := by omega
  clear hl
  obtain ⟨m, hm⟩ : ∃ m : Nat, z % 26 = m := ⟨(z % 26).toNat, by omega⟩
  have hm26 : m < 26 := by omega
  have WI := fun W => within_any z 26 W hz.1 hz.2 (by omega) (by omega)
  rw [hm] at WI
  replace WI := Lib.hid WI
  have zS := zero30
  go_enter Try.func16, Try.ntmps16
  go_upto_region 1 with fail
  obtain ⟨w2, hw2⟩ : ∃ w2, w2 = (w.alloc (.cells #[.string s.name, .slice A s.cols.length c, .int .i64 s.key, .bool s.only] 30)).alloc (.cells #[.string ⟨#[]⟩, .slice none 0 0, .int .i64 0, .bool false] 30) := ⟨_, rfl⟩
  have b2 : Blk w2 w.heap.size [.string s.name, .slice A s.cols.length c, .int .i64 s.key, .bool s.only] 30 := by rw [hw2]; exact (Blk.new w [.string s.name, .slice A s.cols.length c, .int .i64 s.key, .bool s.only] 30).alloc _
  have b4 : Blk w2 (w.heap.size + 1) [.string ⟨#[]⟩, .slice none 0 0, .int .i64 0, .bool false] 30 := by
    rw [hw2]
    have := Blk.new (w.alloc (.cells #[.string s.name, .slice A s.cols.length c, .int .i64 s.key, .bool s.only] 30)) [.string ⟨#[]⟩, .slice none 0 0, .int .i64 0, .bool false] 30
    simpa using this
  have t2 : Turns [] w w2 := by rw [hw2]; exact ((Turns.refl _ _).alloc _).alloc _
  have h2o := b2.cell 3
  have hS : Turns [] w2 w2.drew := (Turns.refl _ _).drew
  have wr1 : IntKind.i64.wrap (97 + (m : Int)) = 97 + (m : Int) := IntWalk.i64_in _ (by omega)
  have wr2 : IntKind.u8.wrap (97 + (m : Int)) = 97 + (m : Int) := IntWalk.u8_in _ (by omega)
  have hcs : ¬ 9223372036854775807 < 1 + (strOf [byteOf (97 + m)]).size := by rw [strOf_size]; simp
  have hw2' := Lib.hid hw2
  clear hw2
  go_cut [5] (fun s5 wx => ∃ q5 : Nat, s5 = .pointer (some ⟨q5, 0, none⟩) ∧ w2.heap.size ≤ q5 ∧ Blk wx q5 [.string ((⟨#[113]⟩ : ByteArray) ++ strOf [byteOf (97 + m)]), .slice none 0 0, .int .i64 0, .bool s.only] 30 ∧ Turns [] w2 wx)
  case first =>
    rw [← hw2'.out]
    refine reg_begin (fun W => Turns [] w2 W) (fun _ => True) 12 12 #[false, false, false, false, false, false, false, false, false, false, false, false] (by kernel_rfl) (by kernel_rfl) (by kernel_rfl) ?_
    refine reg_take 0 8 11 #[true, false, false, false, false, false, false, false, false, false, false, false] (by rfl) (v := ?_) rfl rfl (by kernel_rfl) (by kernel_rfl) (by kernel_rfl) (by kernel_rfl) (fun _ _ _ h => h) (by rfl) ?_ (Till.mk' hS trivial) ?_
    rotate_left
    · intro W hS; go_simp; all_goals with_reducible rfl
    try simp only [List.setIfInBounds_toArray, List.set_cons_succ, List.set_cons_zero]
    refine reg_take 7 15 10 #[true, false, false, false, false, false, false, true, false, false, false, false] (by rfl) (v := ?_) rfl rfl (by kernel_rfl) (by kernel_rfl) (by kernel_rfl) (by kernel_rfl) (fun _ _ _ h => h) (by rfl) ?_ (Till.mk' hS trivial) ?_
    rotate_left
    · intro W hS; go_simp; all_goals with_reducible rfl
    try simp only [List.setIfInBounds_toArray, List.set_cons_succ, List.set_cons_zero]
    refine reg_take 8 16 9 #[true, false, false, false, false, false, false, true, true, false, false, false] (by rfl) (v := ?_) rfl rfl (by kernel_rfl) (by kernel_rfl) (by kernel_rfl) (by kernel_rfl) (fun _ _ _ h => h) (by rfl) ?_ (Till.mk' hS trivial) ?_
    rotate_left
    · intro W hS; have c1 := cellT hS h2o; go_simp; all_goals with_reducible rfl
    try simp only [List.setIfInBounds_toArray, List.set_cons_succ, List.set_cons_zero]
    refine reg_two 1 10 8 #[true, true, false, false, false, false, false, true, true, false, false, false] #[true, false, false, false, false, false, false, true, true, false, true, false] (by kernel_rfl) rfl rfl (by rfl) (by rfl) (by kernel_rfl) (by kernel_rfl) (fun K hK => ?_) (fun K hK => ?_)
    · go_simp
      refine (WI.out _).mono ?_
      rintro e ww ⟨rfl, rfl⟩
      refine hK _ _ (Till.mk' hS trivial) ?_
      clear hK K
      try simp only [List.setIfInBounds_toArray, List.set_cons_succ, List.set_cons_zero]
      refine reg_take 2 10 7 #[true, true, true, false, false, false, false, true, true, false, false, false] (by rfl) (v := ?_) rfl rfl (by kernel_rfl) (by kernel_rfl) (by kernel_rfl) (by kernel_rfl) (fun _ _ _ h => h) (by rfl) ?_ (Till.mk' hS trivial) ?_
      rotate_left
      · intro W hS; go_simp; all_goals with_reducible rfl
      try simp only [List.setIfInBounds_toArray, List.set_cons_succ, List.set_cons_zero]
      refine reg_take 3 11 6 #[true, true, true, true, false, false, false, true, true, false, false, false] (by rfl) (v := ?_) rfl rfl (by kernel_rfl) (by kernel_rfl) (by kernel_rfl) (by kernel_rfl) (fun _ _ _ h => h) (by rfl) ?_ (Till.mk' hS trivial) ?_
      rotate_left
      · intro W hS; go_simp; all_goals with_reducible rfl
      try simp only [List.setIfInBounds_toArray, List.set_cons_succ, List.set_cons_zero]
      refine reg_two 4 10 5 #[true, true, true, true, true, false, false, true, true, false, false, false] #[true, true, true, true, false, false, false, true, true, false, true, false] (by kernel_rfl) rfl rfl (by rfl) (by rfl) (by kernel_rfl) (by kernel_rfl) (fun K hK => ?_) (fun K hK => ?_)
      · go_simp
        have hS := hS.alloc (.cells #[.int .u8 (97 + (m : Int))] 5)
        have hBy := Blk.new w2.drew [.int .u8 (97 + (m : Int))] 5
        rw [show w2.drew.heap.size = w2.heap.size by simp] at hBy
        refine hK _ _ (Till.mk' hS trivial) ?_
        clear hK K
        try simp only [List.setIfInBounds_toArray, List.set_cons_succ, List.set_cons_zero]
        refine reg_two 5 10 4 #[true, true, true, true, true, true, false, true, true, false, false, false] #[true, true, true, true, true, false, false, true, true, false, true, false] (by kernel_rfl) rfl rfl (by rfl) (by rfl) (by kernel_rfl) (by kernel_rfl) (fun K hK => ?_) (fun K hK => ?_)
        · have hcv : (convert 35 9 (.slice (some ⟨w2.heap.size, 0, none⟩) 1 1)).run Try.prog (w2.alloc (.cells #[.int .u8 (97 + (m : Int))] 5)).drew = .ok (.string (strOf [byteOf (97 + m)])) (w2.alloc (.cells #[.int .u8 (97 + (m : Int))] 5)).drew := conv_at hBy hm26
          go_simp
          refine hK _ _ (Till.mk' hS trivial) ?_
          clear hK K
          try simp only [List.setIfInBounds_toArray, List.set_cons_succ, List.set_cons_zero]
          refine reg_take 6 14 3 #[true, true, true, true, true, true, true, true, true, false, false, false] (by rfl) (v := ?_) rfl rfl (by kernel_rfl) (by kernel_rfl) (by kernel_rfl) (by kernel_rfl) (fun _ _ _ h => h) (by rfl) ?_ (Till.mk' hS trivial) ?_
          rotate_left
          · intro W hS; go_simp; all_goals with_reducible rfl
          try simp only [List.setIfInBounds_toArray, List.set_cons_succ, List.set_cons_zero]
          refine reg_take 9 17 2 #[true, true, true, true, true, true, true, true, true, true, false, false] (by rfl) (v := ?_) rfl rfl (by kernel_rfl) (by kernel_rfl) (by kernel_rfl) (by kernel_rfl) (fun _ _ _ h => h) (by rfl) ?_ (Till.mk' hS trivial) ?_
          rotate_left
          · intro W hS; go_simp; all_goals with_reducible rfl
          try simp only [List.setIfInBounds_toArray, List.set_cons_succ, List.set_cons_zero]
          refine reg_one 10 1 #[true, true, true, true, true, true, true, true, true, true, true, false] (by kernel_rfl) rfl (by rfl) (by kernel_rfl) (fun K hK => ?_)
          go_simp
          have hS := hS.alloc (.cells #[.string ⟨#[]⟩, .slice none 0 0, .int .i64 0, .bool false] 30)
          have hBy := hBy.alloc (.cells #[.string ⟨#[]⟩, .slice none 0 0, .int .i64 0, .bool false] 30)
          refine hK _ _ (Till.mk' hS trivial) ?_
          clear hK K
          try simp only [List.setIfInBounds_toArray, List.set_cons_succ, List.set_cons_zero]
          refine reg_one 11 0 #[true, true, true, true, true, true, true, true, true, true, true, true] (by kernel_rfl) rfl (by rfl) (by kernel_rfl) (fun K hK => ?_)
          go_simp
          clear hS
          have hS : Turns [] w2 ((w2.alloc (.cells #[.int .u8 (97 + (m : Int))] 5)).alloc (.cells #[.string ((⟨#[113]⟩ : ByteArray) ++ strOf [byteOf (97 + m)]), .slice none 0 0, .int .i64 0, .bool s.only] 30)).drew := (((Turns.refl [] w2).drew.alloc (.cells #[.int .u8 (97 + (m : Int))] 5)).alloc (.cells #[.string ((⟨#[113]⟩ : ByteArray) ++ strOf [byteOf (97 + m)]), .slice none 0 0, .int .i64 0, .bool s.only] 30))
          have hV := Blk.new (w2.drew.alloc (.cells #[.int .u8 (97 + (m : Int))] 5)) [.string ((⟨#[113]⟩ : ByteArray) ++ strOf [byteOf (97 + m)]), .slice none 0 0, .int .i64 0, .bool s.only] 30
          rw [show (w2.drew.alloc (.cells #[.int .u8 (97 + (m : Int))] 5)).heap.size = w2.heap.size + 1 by simp] at hV
          refine hK _ _ (Till.mk' hS trivial) ?_
          clear hK K
          try simp only [List.setIfInBounds_toArray, List.set_cons_succ, List.set_cons_zero]
          refine reg_done (by kernel_rfl) ?_ _
          go_wp2_with fail
          go_meet
          exact ⟨_, rfl, by omega, hV, hS⟩
        · go_simp
          have hS := hS.alloc (.cells #[.string ⟨#[]⟩, .slice none 0 0, .int .i64 0, .bool false] 30)
          have hBy := hBy.alloc (.cells #[.string ⟨#[]⟩, .slice none 0 0, .int .i64 0, .bool false] 30)
          refine hK _ _ (Till.mk' hS trivial) ?_
          clear hK K
          try simp only [List.setIfInBounds_toArray, List.set_cons_succ, List.set_cons_zero]
          refine reg_one 5 3 #[true, true, true, true, true, true, false, true, true, false, true, false] (by kernel_rfl) rfl (by rfl) (by kernel_rfl) (fun K hK => ?_)
          have hcv : (convert 35 9 (.slice (some ⟨w2.heap.size, 0, none⟩) 1 1)).run Try.prog ((w2.alloc (.cells #[.int .u8 (97 + (m : Int))] 5)).alloc (.cells #[.string ⟨#[]⟩, .slice none 0 0, .int .i64 0, .bool false] 30)).drew = .ok (.string (strOf [byteOf (97 + m)])) ((w2.alloc (.cells #[.int .u8 (97 + (m : Int))] 5)).alloc (.cells #[.string ⟨#[]⟩, .slice none 0 0, .int .i64 0, .bool false] 30)).drew := conv_at hBy hm26
          go_simp
          refine hK _ _ (Till.mk' hS trivial) ?_
          clear hK K
          try simp only [List.setIfInBounds_toArray, List.set_cons_succ, List.set_cons_zero]
          refine reg_take 6 14 2 #[true, true, true, true, true, true, true, true, true, false, true, false] (by rfl) (v := ?_) rfl rfl (by kernel_rfl) (by kernel_rfl) (by kernel_rfl) (by kernel_rfl) (fun _ _ _ h => h) (by rfl) ?_ (Till.mk' hS trivial) ?_
          rotate_left
          · intro W hS; go_simp; all_goals with_reducible rfl
          try simp only [List.setIfInBounds_toArray, List.set_cons_succ, List.set_cons_zero]
          refine reg_take 9 17 1 #[true, true, true, true, true, true, true, true, true, true, true, false] (by rfl) (v := ?_) rfl rfl (by kernel_rfl) (by kernel_rfl) (by kernel_rfl) (by kernel_rfl) (fun _ _ _ h => h) (by rfl) ?_ (Till.mk' hS trivial) ?_
          rotate_left
          · intro W hS; go_simp; all_goals with_reducible rfl
          try simp only [List.setIfInBounds_toArray, List.set_cons_succ, List.set_cons_zero]
          refine reg_one 11 0 #[true, true, true, true, true, true, true, true, true, true, true, true] (by kernel_rfl) rfl (by rfl) (by kernel_rfl) (fun K hK => ?_)
          go_simp
          clear hS
          have hS : Turns [] w2 ((w2.alloc (.cells #[.int .u8 (97 + (m : Int))] 5)).alloc (.cells #[.string ((⟨#[113]⟩ : ByteArray) ++ strOf [byteOf (97 + m)]), .slice none 0 0, .int .i64 0, .bool s.only] 30)).drew := (((Turns.refl [] w2).drew.alloc (.cells #[.int .u8 (97 + (m : Int))] 5)).alloc (.cells #[.string ((⟨#[113]⟩ : ByteArray) ++ strOf [byteOf (97 + m)]), .slice none 0 0, .int .i64 0, .bool s.only] 30))
          have hV := Blk.new (w2.drew.alloc (.cells #[.int .u8 (97 + (m : Int))] 5)) [.string ((⟨#[113]⟩ : ByteArray) ++ strOf [byteOf (97 + m)]), .slice none 0 0, .int .i64 0, .bool s.only] 30
          rw [show (w2.drew.alloc (.cells #[.int .u8 (97 + (m : Int))] 5)).heap.size = w2.heap.size + 1 by simp] at hV
          refine hK _ _ (Till.mk' hS trivial) ?_
          clear hK K
          try simp only [List.setIfInBounds_toArray, List.set_cons_succ, List.set_cons_zero]
          refine reg_done (by kernel_rfl) ?_ _
          go_wp2_with fail
          go_meet
          exact ⟨_, rfl, by omega, hV, hS⟩
      · go_simp
        have hS := hS.alloc (.cells #[.string ⟨#[]⟩, .slice none 0 0, .int .i64 0, .bool false] 30)
        refine hK _ _ (Till.mk' hS trivial) ?_
        clear hK K
        try simp only [List.setIfInBounds_toArray, List.set_cons_succ, List.set_cons_zero]
        refine reg_one 4 4 #[true, true, true, true, true, false, false, true, true, false, true, false] (by kernel_rfl) rfl (by rfl) (by kernel_rfl) (fun K hK => ?_)
        go_simp
        have hS := hS.alloc (.cells #[.int .u8 (97 + (m : Int))] 5)
        have hBy := Blk.new (w2.drew.alloc (.cells #[.string ⟨#[]⟩, .slice none 0 0, .int .i64 0, .bool false] 30)) [.int .u8 (97 + (m : Int))] 5
        rw [show (w2.drew.alloc (.cells #[.string ⟨#[]⟩, .slice none 0 0, .int .i64 0, .bool false] 30)).heap.size = w2.heap.size + 1 by simp] at hBy
        refine hK _ _ (Till.mk' hS trivial) ?_
        clear hK K
        try simp only [List.setIfInBounds_toArray, List.set_cons_succ, List.set_cons_zero]
        refine reg_one 5 3 #[true, true, true, true, true, true, false, true, true, false, true, false] (by kernel_rfl) rfl (by rfl) (by kernel_rfl) (fun K hK => ?_)
        have hcv : (convert 35 9 (.slice (some ⟨w2.heap.size + 1, 0, none⟩) 1 1)).run Try.prog ((w2.alloc (.cells #[.string ⟨#[]⟩, .slice none 0 0, .int .i64 0, .bool false] 30)).alloc (.cells #[.int .u8 (97 + (m : Int))] 5)).drew = .ok (.string (strOf [byteOf (97 + m)])) ((w2.alloc (.cells #[.string ⟨#[]⟩, .slice none 0 0, .int .i64 0, .bool false] 30)).alloc (.cells #[.int .u8 (97 + (m : Int))] 5)).drew := conv_at hBy hm26
        go_simp
        refine hK _ _ (Till.mk' hS trivial) ?_
        clear hK K
        try simp only [List.setIfInBounds_toArray, List.set_cons_succ, List.set_cons_zero]
        refine reg_take 6 14 2 #[true, true, true, true, true, true, true, true, true, false, true, false] (by rfl) (v := ?_) rfl rfl (by kernel_rfl) (by kernel_rfl) (by kernel_rfl) (by kernel_rfl) (fun _ _ _ h => h) (by rfl) ?_ (Till.mk' hS trivial) ?_
        rotate_left
        · intro W hS; go_simp; all_goals with_reducible rfl
        try simp only [List.setIfInBounds_toArray, List.set_cons_succ, List.set_cons_zero]
        refine reg_take 9 17 1 #[true, true, true, true, true, true, true, true, true, true, true, false] (by rfl) (v := ?_) rfl rfl (by kernel_rfl) (by kernel_rfl) (by kernel_rfl) (by kernel_rfl) (fun _ _ _ h => h) (by rfl) ?_ (Till.mk' hS trivial) ?_
        rotate_left
        · intro W hS; go_simp; all_goals with_reducible rfl
        try simp only [List.setIfInBounds_toArray, List.set_cons_succ, List.set_cons_zero]
        refine reg_one 11 0 #[true, true, true, true, true, true, true, true, true, true, true, true] (by kernel_rfl) rfl (by rfl) (by kernel_rfl) (fun K hK => ?_)
        go_simp
        clear hS
        have hS : Turns [] w2 ((w2.alloc (.cells #[.string ((⟨#[113]⟩ : ByteArray) ++ strOf [byteOf (97 + m)]), .slice none 0 0, .int .i64 0, .bool s.only] 30)).alloc (.cells #[.int .u8 (97 + (m : Int))] 5)).drew := (((Turns.refl [] w2).drew.alloc (.cells #[.string ((⟨#[113]⟩ : ByteArray) ++ strOf [byteOf (97 + m)]), .slice none 0 0, .int .i64 0, .bool s.only] 30)).alloc (.cells #[.int .u8 (97 + (m : Int))] 5))
        have hV := Blk.new w2.drew [.string ((⟨#[113]⟩ : ByteArray) ++ strOf [byteOf (97 + m)]), .slice none 0 0, .int .i64 0, .bool s.only] 30
        rw [show w2.drew.heap.size = w2.heap.size by simp] at hV
        have hV := hV.alloc (.cells #[.int .u8 (97 + (m : Int))] 5)
        refine hK _ _ (Till.mk' hS trivial) ?_
        clear hK K
        try simp only [List.setIfInBounds_toArray, List.set_cons_succ, List.set_cons_zero]
        refine reg_done (by kernel_rfl) ?_ _
        go_wp2_with fail
        go_meet
        exact ⟨_, rfl, by omega, hV, hS⟩
    · go_simp
      have hS := hS.alloc (.cells #[.string ⟨#[]⟩, .slice none 0 0, .int .i64 0, .bool false] 30)
      refine hK _ _ (Till.mk' hS trivial) ?_
      clear hK K
      try simp only [List.setIfInBounds_toArray, List.set_cons_succ, List.set_cons_zero]
      refine reg_one 1 7 #[true, true, false, false, false, false, false, true, true, false, true, false] (by kernel_rfl) rfl (by rfl) (by kernel_rfl) (fun K hK => ?_)
      go_simp
      refine (WI.out _).mono ?_
      rintro e ww ⟨rfl, rfl⟩
      refine hK _ _ (Till.mk' hS trivial) ?_
      clear hK K
      try simp only [List.setIfInBounds_toArray, List.set_cons_succ, List.set_cons_zero]
      refine reg_take 2 10 6 #[true, true, true, false, false, false, false, true, true, false, true, false] (by rfl) (v := ?_) rfl rfl (by kernel_rfl) (by kernel_rfl) (by kernel_rfl) (by kernel_rfl) (fun _ _ _ h => h) (by rfl) ?_ (Till.mk' hS trivial) ?_
      rotate_left
      · intro W hS; go_simp; all_goals with_reducible rfl
      try simp only [List.setIfInBounds_toArray, List.set_cons_succ, List.set_cons_zero]
      refine reg_take 3 11 5 #[true, true, true, true, false, false, false, true, true, false, true, false] (by rfl) (v := ?_) rfl rfl (by kernel_rfl) (by kernel_rfl) (by kernel_rfl) (by kernel_rfl) (fun _ _ _ h => h) (by rfl) ?_ (Till.mk' hS trivial) ?_
      rotate_left
      · intro W hS; go_simp; all_goals with_reducible rfl
      try simp only [List.setIfInBounds_toArray, List.set_cons_succ, List.set_cons_zero]
      refine reg_one 4 4 #[true, true, true, true, true, false, false, true, true, false, true, false] (by kernel_rfl) rfl (by rfl) (by kernel_rfl) (fun K hK => ?_)
      go_simp
      have hS := hS.alloc (.cells #[.int .u8 (97 + (m : Int))] 5)
      have hBy := Blk.new (w2.drew.alloc (.cells #[.string ⟨#[]⟩, .slice none 0 0, .int .i64 0, .bool false] 30)) [.int .u8 (97 + (m : Int))] 5
      rw [show (w2.drew.alloc (.cells #[.string ⟨#[]⟩, .slice none 0 0, .int .i64 0, .bool false] 30)).heap.size = w2.heap.size + 1 by simp] at hBy
      refine hK _ _ (Till.mk' hS trivial) ?_
      clear hK K
      try simp only [List.setIfInBounds_toArray, List.set_cons_succ, List.set_cons_zero]
      refine reg_one 5 3 #[true, true, true, true, true, true, false, true, true, false, true, false] (by kernel_rfl) rfl (by rfl) (by kernel_rfl) (fun K hK => ?_)
      have hcv : (convert 35 9 (.slice (some ⟨w2.heap.size + 1, 0, none⟩) 1 1)).run Try.prog ((w2.alloc (.cells #[.string ⟨#[]⟩, .slice none 0 0, .int .i64 0, .bool false] 30)).alloc (.cells #[.int .u8 (97 + (m : Int))] 5)).drew = .ok (.string (strOf [byteOf (97 + m)])) ((w2.alloc (.cells #[.string ⟨#[]⟩, .slice none 0 0, .int .i64 0, .bool false] 30)).alloc (.cells #[.int .u8 (97 + (m : Int))] 5)).drew := conv_at hBy hm26
      go_simp
      refine hK _ _ (Till.mk' hS trivial) ?_
      clear hK K
      try simp only [List.setIfInBounds_toArray, List.set_cons_succ, List.set_cons_zero]
      refine reg_take 6 14 2 #[true, true, true, true, true, true, true, true, true, false, true, false] (by rfl) (v := ?_) rfl rfl (by kernel_rfl) (by kernel_rfl) (by kernel_rfl) (by kernel_rfl) (fun _ _ _ h => h) (by rfl) ?_ (Till.mk' hS trivial) ?_
      rotate_left
      · intro W hS; go_simp; all_goals with_reducible rfl
      try simp only [List.setIfInBounds_toArray, List.set_cons_succ, List.set_cons_zero]
      refine reg_take 9 17 1 #[true, true, true, true, true, true, true, true, true, true, true, false] (by rfl) (v := ?_) rfl rfl (by kernel_rfl) (by kernel_rfl) (by kernel_rfl) (by kernel_rfl) (fun _ _ _ h => h) (by rfl) ?_ (Till.mk' hS trivial) ?_
      rotate_left
      · intro W hS; go_simp; all_goals with_reducible rfl
      try simp only [List.setIfInBounds_toArray, List.set_cons_succ, List.set_cons_zero]
      refine reg_one 11 0 #[true, true, true, true, true, true, true, true, true, true, true, true] (by kernel_rfl) rfl (by rfl) (by kernel_rfl) (fun K hK => ?_)
      go_simp
      clear hS
      have hS : Turns [] w2 ((w2.alloc (.cells #[.string ((⟨#[113]⟩ : ByteArray) ++ strOf [byteOf (97 + m)]), .slice none 0 0, .int .i64 0, .bool s.only] 30)).alloc (.cells #[.int .u8 (97 + (m : Int))] 5)).drew := (((Turns.refl [] w2).drew.alloc (.cells #[.string ((⟨#[113]⟩ : ByteArray) ++ strOf [byteOf (97 + m)]), .slice none 0 0, .int .i64 0, .bool s.only] 30)).alloc (.cells #[.int .u8 (97 + (m : Int))] 5))
      have hV := Blk.new w2.drew [.string ((⟨#[113]⟩ : ByteArray) ++ strOf [byteOf (97 + m)]), .slice none 0 0, .int .i64 0, .bool s.only] 30
      rw [show w2.drew.heap.size = w2.heap.size by simp] at hV
      have hV := hV.alloc (.cells #[.int .u8 (97 + (m : Int))] 5)
      refine hK _ _ (Till.mk' hS trivial) ?_
      clear hK K
      try simp only [List.setIfInBounds_toArray, List.set_cons_succ, List.set_cons_zero]
      refine reg_done (by kernel_rfl) ?_ _
      go_wp2_with fail
      go_meet
      exact ⟨_, rfl, by omega, hV, hS⟩
  case rest =>
    obtain ⟨q5, rfl, hq5, hV, hS2⟩ := hcut
    have hgL := goodL_le s
    clear hS h2o WI wr1 wr2 hcs
    go_wp2_with fail
    go_loopw [6] (fun i wr => ∃ (k : Nat) (v : Value), k ≤ goodL s ∧ i = .int .i64 k ∧ Blk wr q5 [.string ((⟨#[113]⟩ : ByteArray) ++ strOf [byteOf (97 + m)]), v, .int .i64 0, .bool s.only] 30 ∧ wr.ownsRow w2.heap.size 27 3 v k (colCells (goodCols s k)) ∧ v.ownBlock ≠ some q5 ∧ Turns [] w2 wr) (fun i _ => goodL s - (intOf i).toNat)
    case atStart => exact ⟨0, _, by omega, rfl, hV, World.ownsRow_nil _ _ _ _, by simp [Value.ownBlock], hS2⟩
    case round =>
      clear hV hS2
      obtain ⟨k, v, hk, rfl, hg, own, hne, ht⟩ := hrel
      have hb2 := b2.turns ht (by simp)
      have ht0 := t2.trans ht (by simp)
      have hsr := ht0.slice hs hB (by simp)
      have cS1 : wr.cell? ⟨w.heap.size, 1, none⟩ = some (.slice A s.cols.length c) := hb2.cell 1
      have hw2s := t2.size
      have hrs := ht.size
      have hqr := hg.lt
      have hbl2 := b2.lt
      by_cases hlt : k < goodL s
      · have hlt' := (goodL_lt s k).1 hlt
        have e97 : IntKind.i64.wrap (97 + (k : Int)) = 97 + (k : Int) := IntWalk.i64_in _ (by omega)
        have e97' : IntKind.u8.wrap (97 + (k : Int)) = 97 + (k : Int) := IntWalk.u8_in _ (by omega)
        have hcv := conv_byte wr (97 + (k : Int)) (byteOf (97 + k)) (by rw [byteOf_toNat _ (by omega)]; omega)
        have z27 := zero27
        obtain ⟨t, htd⟩ : ∃ t, t = strOf [byteOf (97 + k)] := ⟨_, rfl⟩
        rw [← htd] at hcv
        obtain ⟨w3, hw3⟩ : ∃ w3, w3 = (wr.alloc (.cells #[.int .u8 (97 + (k : Int))] 5)).alloc (.cells #[.string t, .int .i64 2, .bool false] 27) := ⟨_, rfl⟩
        obtain ⟨p7, hp7⟩ : ∃ p7, p7 = wr.heap.size + 1 := ⟨_, rfl⟩
        have hP3 : Blk w3 p7 [.string t, .int .i64 2, .bool false] 27 := by
          rw [hw3, hp7]
          have := Blk.new (wr.alloc (.cells #[.int .u8 (97 + (k : Int))] 5)) [.string t, .int .i64 2, .bool false] 27
          simpa using this
        have t3 : Turns [] wr w3 := by rw [hw3]; exact ((Turns.refl _ _).alloc _).alloc _
        have hpq : q5 ≠ p7 := by omega
        have hpS : w.heap.size ≠ p7 := by omega
        have hw3' := Lib.hid hw3
        have hp7' := Lib.hid hp7
        have htd' := Lib.hid htd
        clear hw3 hp7 htd
        by_cases hraw : k < s.cols.length
        · obtain ⟨b, off, rfl, h1c, h2c⟩ : ∃ b off, A = some ⟨b, off, none⟩ ∧ wr.cell? ⟨b, off + k * 3 + 1, none⟩ = some (.int .i64 s.cols[k].kind) ∧ wr.cell? ⟨b, off + k * 3 + 2, none⟩ = some (.bool s.cols[k].null) := by
            obtain ⟨_, _, _, ee, _, _, _, hrd⟩ := hsr
            injection ee with e1 _ e3
            subst e1
            obtain ⟨b, off, rfl, hb, hc⟩ := hrd (by intro e; have := congrArg List.length e; rw [colCells_length] at this; simp at this; omega)
            exact ⟨b, off, rfl, by have := hc (k * 3 + 1) (.int .i64 s.cols[k].kind) (by rw [colCells_get s.cols k 1 hraw (by omega)]; rfl); simpa [Nat.add_assoc] using this, by have := hc (k * 3 + 2) (.bool s.cols[k].null) (by rw [colCells_get s.cols k 2 hraw (by omega)]; rfl); simpa [Nat.add_assoc] using this⟩
          have hkk := hkd _ (List.getElem_mem hraw)
          have gc : goodCol s k = ⟨t, 1 + s.cols[k].kind % 3, s.cols[k].null⟩ := by unfold goodCol; rw [List.getElem?_eq_getElem hraw, htd'.out]
          generalize s.cols[k].kind = kd at h1c hkk gc
          generalize s.cols[k].null = nl at h2c gc
          have gc' := Lib.hid gc
          have WI3 := fun W => within_any kd 3 W hkk.1 hkk.2 (by omega) (by omega)
          replace WI3 := Lib.hid WI3
          have wr3 : IntKind.i64.wrap (1 + kd % 3) = 1 + kd % 3 := IntWalk.i64_in _ (by omega)
          have k1 := cellT t3 h1c
          have k2 := cellT t3 h2c
          have kS := cellT t3 cS1
          have n1 : b ≠ p7 := by have := World.block_lt_of_cell? wr _ h1c; rw [hp7'.out]; intro e; simp at this; omega
          have x1 : (k : Int) < (s.cols.length : Int) := by omega
          have x2 : decide (k < s.cols.length) = true := decide_eq_true hraw
          have hcS : ∀ o o', ((wr.alloc o).alloc o').cell? ⟨w.heap.size, 1, none⟩ = some (.slice (some ⟨b, off, none⟩) s.cols.length c) := fun o o' => by rw [World.cell?_alloc_lt _ _ _ (by simp; omega), World.cell?_alloc_lt _ _ _ (show w.heap.size < wr.heap.size by omega)]; exact cS1
          have hS := (Turns.refl [p7] w3).drew
          clear gc hkk h1c h2c
          go_upto_region 7 with fail
          all_goals
            rw [← hw3'.out]
            rw [← hp7'.out]
            refine reg_begin (fun W => Turns [p7] w3 W) (fun _ => True) 18 18 #[false, false, false, false, false, false, false, false, false, false, false, false, false, false, false, false, false, false] (by kernel_rfl) (by kernel_rfl) (by kernel_rfl) ?_
            refine reg_take 0 44 17 #[true, false, false, false, false, false, false, false, false, false, false, false, false, false, false, false, false, false] (by rfl) (v := ?_) rfl rfl (by kernel_rfl) (by kernel_rfl) (by kernel_rfl) (by kernel_rfl) (fun _ _ _ h => h) (by rfl) ?_ (Till.mk' hS trivial) ?_
            rotate_left
            · intro W hS; go_simp; all_goals with_reducible rfl
            try simp only [List.setIfInBounds_toArray, List.set_cons_succ, List.set_cons_zero]
            refine reg_take 1 45 16 #[true, true, false, false, false, false, false, false, false, false, false, false, false, false, false, false, false, false] (by rfl) (v := ?_) rfl rfl (by kernel_rfl) (by kernel_rfl) (by kernel_rfl) (by kernel_rfl) (fun _ _ _ h => h) (by rfl) ?_ (Till.mk' hS trivial) ?_
            rotate_left
            · intro W hS; have c1 := cellTL hS kS (by simp; omega); go_simp; all_goals with_reducible rfl
            try simp only [List.setIfInBounds_toArray, List.set_cons_succ, List.set_cons_zero]
            refine reg_take 2 46 15 #[true, true, true, false, false, false, false, false, false, false, false, false, false, false, false, false, false, false] (by rfl) (v := ?_) rfl rfl (by kernel_rfl) (by kernel_rfl) (by kernel_rfl) (by kernel_rfl) (fun _ _ _ h => h) (by rfl) ?_ (Till.mk' hS trivial) ?_
            rotate_left
            · intro W hS; go_simp; all_goals with_reducible rfl
            try simp only [List.setIfInBounds_toArray, List.set_cons_succ, List.set_cons_zero]
            refine reg_take 3 47 14 #[true, true, true, true, false, false, false, false, false, false, false, false, false, false, false, false, false, false] (by rfl) (v := ?_) rfl rfl (by kernel_rfl) (by kernel_rfl) (by kernel_rfl) (by kernel_rfl) (fun _ _ _ h => h) (by rfl) ?_ (Till.mk' hS trivial) ?_
            rotate_left
            · intro W hS; go_simp; all_goals with_reducible rfl
            try simp only [List.setIfInBounds_toArray, List.set_cons_succ, List.set_cons_zero]
            refine reg_take 4 48 13 #[true, true, true, true, true, false, false, false, false, false, false, false, false, false, false, false, false, false] (by rfl) (v := ?_) rfl rfl (by kernel_rfl) (by kernel_rfl) (by kernel_rfl) (by kernel_rfl) (fun _ _ _ h => h) (by rfl) ?_ (Till.mk' hS trivial) ?_
            rotate_left
            · intro W hS; go_simp; all_goals with_reducible rfl
            try simp only [List.setIfInBounds_toArray, List.set_cons_succ, List.set_cons_zero]
            refine reg_take 5 49 12 #[true, true, true, true, true, true, false, false, false, false, false, false, false, false, false, false, false, false] (by rfl) (v := ?_) rfl rfl (by kernel_rfl) (by kernel_rfl) (by kernel_rfl) (by kernel_rfl) (fun _ _ _ h => h) (by rfl) ?_ (Till.mk' hS trivial) ?_
            rotate_left
            · intro W hS; have c1 := cellTL hS k1 (by simpa using n1); go_simp; all_goals with_reducible rfl
            try simp only [List.setIfInBounds_toArray, List.set_cons_succ, List.set_cons_zero]
            refine reg_take 8 52 11 #[true, true, true, true, true, true, false, false, true, false, false, false, false, false, false, false, false, false] (by rfl) (v := ?_) rfl rfl (by kernel_rfl) (by kernel_rfl) (by kernel_rfl) (by kernel_rfl) (fun _ _ _ h => h) (by rfl) ?_ (Till.mk' hS trivial) ?_
            rotate_left
            · intro W hS; go_simp; all_goals with_reducible rfl
            try simp only [List.setIfInBounds_toArray, List.set_cons_succ, List.set_cons_zero]
            refine reg_take 9 53 10 #[true, true, true, true, true, true, false, false, true, true, false, false, false, false, false, false, false, false] (by rfl) (v := ?_) rfl rfl (by kernel_rfl) (by kernel_rfl) (by kernel_rfl) (by kernel_rfl) (fun _ _ _ h => h) (by rfl) ?_ (Till.mk' hS trivial) ?_
            rotate_left
            · intro W hS; have c1 := cellTL hS kS (by simp; omega); go_simp; all_goals with_reducible rfl
            try simp only [List.setIfInBounds_toArray, List.set_cons_succ, List.set_cons_zero]
            refine reg_take 10 54 9 #[true, true, true, true, true, true, false, false, true, true, true, false, false, false, false, false, false, false] (by rfl) (v := ?_) rfl rfl (by kernel_rfl) (by kernel_rfl) (by kernel_rfl) (by kernel_rfl) (fun _ _ _ h => h) (by rfl) ?_ (Till.mk' hS trivial) ?_
            rotate_left
            · intro W hS; go_simp; all_goals with_reducible rfl
            try simp only [List.setIfInBounds_toArray, List.set_cons_succ, List.set_cons_zero]
            refine reg_take 11 55 8 #[true, true, true, true, true, true, false, false, true, true, true, true, false, false, false, false, false, false] (by rfl) (v := ?_) rfl rfl (by kernel_rfl) (by kernel_rfl) (by kernel_rfl) (by kernel_rfl) (fun _ _ _ h => h) (by rfl) ?_ (Till.mk' hS trivial) ?_
            rotate_left
            · intro W hS; go_simp; all_goals with_reducible rfl
            try simp only [List.setIfInBounds_toArray, List.set_cons_succ, List.set_cons_zero]
            refine reg_take 12 56 7 #[true, true, true, true, true, true, false, false, true, true, true, true, true, false, false, false, false, false] (by rfl) (v := ?_) rfl rfl (by kernel_rfl) (by kernel_rfl) (by kernel_rfl) (by kernel_rfl) (fun _ _ _ h => h) (by rfl) ?_ (Till.mk' hS trivial) ?_
            rotate_left
            · intro W hS; go_simp; all_goals with_reducible rfl
            try simp only [List.setIfInBounds_toArray, List.set_cons_succ, List.set_cons_zero]
            refine reg_take 13 57 6 #[true, true, true, true, true, true, false, false, true, true, true, true, true, true, false, false, false, false] (by rfl) (v := ?_) rfl rfl (by kernel_rfl) (by kernel_rfl) (by kernel_rfl) (by kernel_rfl) (fun _ _ _ h => h) (by rfl) ?_ (Till.mk' hS trivial) ?_
            rotate_left
            · intro W hS; have c1 := cellTL hS k2 (by simpa using n1); go_simp; all_goals with_reducible rfl
            try simp only [List.setIfInBounds_toArray, List.set_cons_succ, List.set_cons_zero]
            refine reg_one 6 5 #[true, true, true, true, true, true, true, false, true, true, true, true, true, true, false, false, false, false] (by kernel_rfl) rfl (by rfl) (by kernel_rfl) (fun K hK => ?_)
            go_simp
            refine (WI3.out _).mono ?_
            rintro e ww ⟨rfl, rfl⟩
            refine hK _ _ (Till.mk' hS trivial) ?_
            clear hK K
            try simp only [List.setIfInBounds_toArray, List.set_cons_succ, List.set_cons_zero]
            refine reg_take 7 51 4 #[true, true, true, true, true, true, true, true, true, true, true, true, true, true, false, false, false, false] (by rfl) (v := ?_) rfl rfl (by kernel_rfl) (by kernel_rfl) (by kernel_rfl) (by kernel_rfl) (fun _ _ _ h => h) (by rfl) ?_ (Till.mk' hS trivial) ?_
            rotate_left
            · intro W hS; go_simp; all_goals with_reducible rfl
            try simp only [List.setIfInBounds_toArray, List.set_cons_succ, List.set_cons_zero]
            refine reg_take 14 58 3 #[true, true, true, true, true, true, true, true, true, true, true, true, true, true, true, false, false, false] (by rfl) (v := ?_) rfl rfl (by kernel_rfl) (by kernel_rfl) (by kernel_rfl) (by kernel_rfl) (fun _ _ _ h => h) (by rfl) ?_ (Till.mk' hS trivial) ?_
            rotate_left
            · intro W hS; go_simp; all_goals with_reducible rfl
            try simp only [List.setIfInBounds_toArray, List.set_cons_succ, List.set_cons_zero]
            refine reg_one 15 2 #[true, true, true, true, true, true, true, true, true, true, true, true, true, true, true, true, false, false] (by kernel_rfl) rfl (by rfl) (by kernel_rfl) (fun K hK => ?_)
            have fP := hP3.free 1
            have cP := hP3.cell 1
            go_simp
            have hS := hS.setCell (p := ⟨p7, 1, none⟩) (.inl (by simp)) (.int .i64 (1 + kd % 3))
            have hP3 := hP3.set 1 (.int .i64 (1 + kd % 3))
            refine hK _ _ (Till.mk' hS trivial) ?_
            clear hK K
            try simp only [List.setIfInBounds_toArray, List.set_cons_succ, List.set_cons_zero]
            refine reg_take 16 59 1 #[true, true, true, true, true, true, true, true, true, true, true, true, true, true, true, true, true, false] (by rfl) (v := ?_) rfl rfl (by kernel_rfl) (by kernel_rfl) (by kernel_rfl) (by kernel_rfl) (fun _ _ _ h => h) (by rfl) ?_ (Till.mk' hS trivial) ?_
            rotate_left
            · intro W hS; go_simp; all_goals with_reducible rfl
            try simp only [List.setIfInBounds_toArray, List.set_cons_succ, List.set_cons_zero]
            refine reg_one 17 0 #[true, true, true, true, true, true, true, true, true, true, true, true, true, true, true, true, true, true] (by kernel_rfl) rfl (by rfl) (by kernel_rfl) (fun K hK => ?_)
            have fP := hP3.free 2
            have cP := hP3.cell 2
            go_simp
            have hS := hS.setCell (p := ⟨p7, 2, none⟩) (.inl (by simp)) (.bool nl)
            have hP3 := hP3.set 2 (.bool nl)
            refine hK _ _ (Till.mk' hS trivial) ?_
            clear hK K
            try simp only [List.setIfInBounds_toArray, List.set_cons_succ, List.set_cons_zero]
            refine reg_done (by kernel_rfl) ?_ _
            have hP5 : Blk ((w3.setCell ⟨p7, 1, none⟩ (.int .i64 (1 + kd % 3))).setCell ⟨p7, 2, none⟩ (.bool nl)).drew p7 [.string t, .int .i64 (1 + kd % 3), .bool nl] 27 := hP3
            have hS5 : Turns [p7] w3 ((w3.setCell ⟨p7, 1, none⟩ (.int .i64 (1 + kd % 3))).setCell ⟨p7, 2, none⟩ (.bool nl)).drew := hS
            clear hS hP3
            obtain ⟨w5, hw5⟩ : ∃ w5, w5 = ((w3.setCell ⟨p7, 1, none⟩ (.int .i64 (1 + kd % 3))).setCell ⟨p7, 2, none⟩ (.bool nl)).drew := ⟨_, rfl⟩
            rw [← hw5] at hP5 hS5 ⊢
            clear hw5
            have t5 : Turns [] wr w5 := t3.trans hS5 (by intro x hx; simp at hx; exact .inr (by rw [hx, hp7'.out]; omega))
            have own5 := own_t0 own t5
            have hg5 := hg.turns t5 (by simp)
            have p51 : w5.cell? ⟨q5, 1, none⟩ = some v := hg5.cell 1
            have hrg := hP5.range 0 3
            rw [List.drop_zero, List.take_of_length_le (by simp)] at hrg
            have hsz : (Try.prog.info? 27).map (·.size) = some ([.string t, .int .i64 (1 + kd % 3), .bool nl] : List Value).length := T27i
            obtain ⟨v7, w7, hr7, ap⟩ := run_append_rd (P := Try.prog) _ T28 28 (own5.alloc (.cells #[.string t, .int .i64 (1 + kd % 3), .bool nl] 27)) (Sl.new w5 #[.string t, .int .i64 (1 + kd % 3), .bool nl] 27 1 3 rfl (by simp [maxLen])) (by intro u hu; simp at hu; rcases hu with rfl | rfl | rfl <;> rfl) (by simp only [maxLen]; omega) (by omega) (by have := (ht.trans t5 (by simp)).size; simp; omega)
            obtain ⟨A7, c7, rfl⟩ := own_form' ap.own
            have hb7 := apd_blk' ap (hg5.alloc _) hne
            have c51 : w7.cell? ⟨q5, 1, none⟩ = some v := hb7.cell 1
            have f51 := hb7.free 1
            have hb8 := hb7.set 1 (.slice A7 (k + 1) c7)
            have hne7 : (Value.slice A7 (k + 1) c7).ownBlock ≠ some q5 := by
              rcases ap.lies with h | ⟨g, h, hge⟩
              · rw [h]; exact hne
              · rw [h]; intro e; injection e with e; have := hg5.lt; simp at hge; omega
            have own9 := ownsRow_setCell_other ap.own (a := ⟨q5, 1, none⟩) hne7 (.slice A7 (k + 1) c7)
            have tg : Turns v.ownBlock.toList (w5.alloc (.cells #[.string t, .int .i64 (1 + kd % 3), .bool nl] 27)) w7 := Turns.of_grown ap.grown (by intro x hx; exact .inl (by simpa using hx))
            have t9 : Turns [] w2 (w7.setCell ⟨q5, 1, none⟩ (.slice A7 (k + 1) c7)) := (((ht.trans t5 (by simp)).alloc (.cells #[.string t, .int .i64 (1 + kd % 3), .bool nl] 27)).trans tg (by intro x hx; exact .inr (own.lt x (by simpa using hx)).1)).setCell (p := ⟨q5, 1, none⟩) (.inr hq5) _
            have HC := Lib.hid (show colCells (goodCols s (k + 1)) = colCells (goodCols s k) ++ [.string t, .int .i64 (1 + kd % 3), .bool nl] by
              rw [goodCols_succ, colCells_app, gc'.out]; rfl)
            clear own ap tg hb7 hsr hg hg5 own5 t3 hS5
            go_wp2_with (first
              | (refine wpList_load_mid rfl 27 (.tmp 7) rfl p7 0 rfl _ _ hrg Try.underlying27 rfl hsz ?_)
              | (at_builtin; refine wpList_append_at rfl (.tmp 61) (.tmp 63) rfl hr7 rfl rfl ?_))
            go_roundw
            case rel => exact ⟨k + 1, _, by omega, by go_num, hb8, by rw [HC.out]; exact own9, hne7, t9⟩
            case measure => (simp [intOf] <;> omega)
        · have x1 : (k : Int) < 1 := by omega
          have x2 : decide (k < s.cols.length) = false := decide_eq_false hraw
          have x3 : ¬ ((k : Int) < (s.cols.length : Int)) := by omega
          have gc : goodCol s k = ⟨t, 2, false⟩ := by unfold goodCol; rw [List.getElem?_eq_none (by omega), htd'.out]
          have hc51 : ∀ o o', ((wr.alloc o).alloc o').cell? ⟨q5, 1, none⟩ = some v := fun o o' => by rw [World.cell?_alloc_lt _ _ _ (by simp; omega), World.cell?_alloc_lt _ _ _ hqr]; exact hg.cell 1
          have hcS : ∀ o o', ((wr.alloc o).alloc o').cell? ⟨w.heap.size, 1, none⟩ = some (.slice A s.cols.length c) := fun o o' => by rw [World.cell?_alloc_lt _ _ _ (by simp; omega), World.cell?_alloc_lt _ _ _ (show w.heap.size < wr.heap.size by omega)]; exact cS1
          have own3 := own_t0 own t3
          have hg3 := hg.turns t3 (by simp)
          obtain ⟨v7, w7, hr7, ap⟩ := run_append_rd (P := Try.prog) _ T28 28 (own3.alloc (.cells #[.string t, .int .i64 2, .bool false] 27)) (Sl.new w3 #[.string t, .int .i64 2, .bool false] 27 1 3 rfl (by simp [maxLen])) (by intro u hu; simp at hu; rcases hu with rfl | rfl | rfl <;> rfl) (by simp only [maxLen]; omega) (by omega) (by have := (ht.trans t3 (by simp)).size; simp; omega)
          obtain ⟨A7, c7, rfl⟩ := own_form' ap.own
          have hb7 := apd_blk' ap (hg3.alloc _) hne
          have c51 : w7.cell? ⟨q5, 1, none⟩ = some v := hb7.cell 1
          have f51 := hb7.free 1
          have hb8 := hb7.set 1 (.slice A7 (k + 1) c7)
          have hne7 : (Value.slice A7 (k + 1) c7).ownBlock ≠ some q5 := by
            rcases ap.lies with h | ⟨g, h, hge⟩
            · rw [h]; exact hne
            · rw [h]; intro e; injection e with e; have := hg3.lt; simp at hge; omega
          have own9 := ownsRow_setCell_other ap.own (a := ⟨q5, 1, none⟩) hne7 (.slice A7 (k + 1) c7)
          have tg : Turns v.ownBlock.toList (w3.alloc (.cells #[.string t, .int .i64 2, .bool false] 27)) w7 := Turns.of_grown ap.grown (by intro x hx; exact .inl (by simpa using hx))
          have t9 : Turns [] w2 (w7.setCell ⟨q5, 1, none⟩ (.slice A7 (k + 1) c7)) := (((ht.trans t3 (by simp)).alloc (.cells #[.string t, .int .i64 2, .bool false] 27)).trans tg (by intro x hx; exact .inr (own.lt x (by simpa using hx)).1)).setCell (p := ⟨q5, 1, none⟩) (.inr hq5) _
          have HC := Lib.hid (show colCells (goodCols s (k + 1)) = colCells (goodCols s k) ++ [.string t, .int .i64 2, .bool false] by
            rw [goodCols_succ, colCells_app, gc]; rfl)
          rw [hw3'.out] at hr7
          rw [show ((wr.alloc (.cells #[.int .u8 (97 + (k : Int))] 5)).alloc (.cells #[.string t, .int .i64 2, .bool false] 27)).heap.size = wr.heap.size + 1 + 1 by simp] at hr7
          clear own ap tg hb7 hsr hg hg3 own3 hP3 t3 gc
          go_wp2_with (at_builtin; refine wpList_append_at rfl (.tmp 61) (.tmp 63) rfl hr7 rfl rfl ?_)
          go_roundw
          case rel => exact ⟨k + 1, _, by omega, by go_num, hb8, by rw [HC.out]; exact own9, hne7, t9⟩
          case measure => (simp [intOf] <;> omega)
      · obtain rfl : k = goodL s := by omega
        have hgp := goodL_pos s
        have hlt' : ¬ (goodL s < 1 ∨ (goodL s < s.cols.length ∧ goodL s < 6)) := fun h => hlt ((goodL_lt s _).2 h)
        have hb4 := b4.turns ht (by simp)
        obtain ⟨g, c5, rfl, hgg⟩ : ∃ g c5, v = .slice (some ⟨g, 0, none⟩) (goodL s) c5 ∧ w2.heap.size ≤ g := by
          rcases own.2 with ⟨h', _⟩ | ⟨g, cap, cur, h', hbg, _⟩
          · obtain ⟨A5, c5, rfl⟩ := own_form' own; simp at h'; omega
          · exact ⟨g, cap, h', hbg⟩
        have hgq : g ≠ q5 := fun e => hne (by rw [e]; rfl)
        obtain ⟨q, hq⟩ : ∃ q, q = goodKey s := ⟨_, rfl⟩
        have hq' : s.key % (goodL s : Int) = (q : Int) := by rw [hq]; unfold goodKey; have := Int.emod_nonneg s.key (show (goodL s : Int) ≠ 0 by omega); omega
        have hql : q < goodL s := by have := Int.emod_lt_of_pos s.key (show (0 : Int) < (goodL s : Int) by omega); omega
        have WK := fun W => within_any s.key (goodL s) W hky.1 hky.2 (by omega) (by omega)
        rw [hq'] at WK
        replace WK := Lib.hid WK
        have hqi : (q : Int) < (goodL s : Int) := by omega
        have c2k : wr.cell? ⟨w.heap.size, 2, none⟩ = some (.int .i64 s.key) := hb2.cell 2
        have c51 : wr.cell? ⟨q5, 1, none⟩ = some (.slice (some ⟨g, 0, none⟩) (goodL s) c5) := hg.cell 1
        have c52 : wr.cell? ⟨q5, 2, none⟩ = some (.int .i64 0) := hg.cell 2
        have f52 := hg.free 2
        have z30 := zero30
        obtain ⟨v0, hv0⟩ : ∃ v0, wr.cell? ⟨g, q * 3 + 2, none⟩ = some v0 := by
          obtain ⟨b, off, e, _, hc⟩ := (Rd.of_own own).at_ (k := q * 3 + 2) (by rw [colCells_length, goodCols_len]; omega)
          injection e with e
          injection e with e1 e2
          subst e1
          subst e2
          exact ⟨_, by simpa using hc⟩
        have fg := own.frozenAt (q * 3 + 2)
        have hw5 : ∃ W5, W5 = wr.setCell ⟨q5, 2, none⟩ (.int .i64 (q : Int)) := ⟨_, rfl⟩
        obtain ⟨W5, hW5⟩ := hw5
        have hg5 : Blk W5 q5 [.string ((⟨#[113]⟩ : ByteArray) ++ strOf [byteOf (97 + m)]), .slice (some ⟨g, 0, none⟩) (goodL s) c5, .int .i64 (q : Int), .bool s.only] 30 := by rw [hW5]; exact hg.set 2 _
        have own5 := ownsRow_setCell_other own (a := ⟨q5, 2, none⟩) hne (.int .i64 (q : Int))
        rw [← hW5] at own5
        have t5 := ht.setCell (p := ⟨q5, 2, none⟩) (.inr hq5) (.int .i64 (q : Int))
        rw [← hW5] at t5
        have hb5 := hb4.other (p := ⟨q5, 2, none⟩) (by have := b4.lt; simp; omega) (.int .i64 (q : Int))
        rw [← hW5] at hb5
        obtain ⟨own6, _⟩ := own5.stored (q * 3 + 2) (.bool false)
        have t6 := t5.setCell (p := ⟨g, q * 3 + 2, none⟩) (.inr hgg) (.bool false)
        have hg6 := hg5.other (p := ⟨g, q * 3 + 2, none⟩) hgq (.bool false)
        have hb6 := hb5.other (p := ⟨g, q * 3 + 2, none⟩) (by simp; have := b4.lt; omega) (.bool false)
        rw [hW5] at own6 t6 hg6 hb6
        have r6 := hg6.range 0 4
        rw [List.drop_zero, List.take_of_length_le (by simp)] at r6
        have th6 := hb6.there 0 4 (by simp)
        have b7 := hb6.setCells [.string ((⟨#[113]⟩ : ByteArray) ++ strOf [byteOf (97 + m)]), .slice (some ⟨g, 0, none⟩) (goodL s) c5, .int .i64 (q : Int), .bool s.only] 0
        have hsz30 : (Try.prog.info? 30).map (·.size) = some ([.string ((⟨#[113]⟩ : ByteArray) ++ strOf [byteOf (97 + m)]), .slice (some ⟨g, 0, none⟩) (goodL s) c5, .int .i64 (q : Int), .bool s.only] : List Value).length := by kernel_rfl
        have e0 := hb4.cell 0
        have e1 := hb4.cell 1
        have e2 := hb4.cell 2
        have e3 := hb4.cell 3
        have f0 := hb4.free 0
        have f1 := hb4.free 1
        have f2 := hb4.free 2
        have f3 := hb4.free 3
        have n4 : w.heap.size + 1 ≠ q5 := by have := b4.lt; omega
        have n5 : w.heap.size + 1 ≠ g := by have := b4.lt; omega
        have n6 : q5 ≠ w.heap.size + 1 := Ne.symm n4
        have n7 : g ≠ w.heap.size + 1 := Ne.symm n5
        simp only [List.getElem?_cons_zero, List.getElem?_cons_succ] at e0 e1 e2 e3
        have t7 := (t2.trans t6 (by simp)).setCells (b := w.heap.size + 1) (.inr (by omega)) [.string ((⟨#[113]⟩ : ByteArray) ++ strOf [byteOf (97 + m)]), .slice (some ⟨g, 0, none⟩) (goodL s) c5, .int .i64 (q : Int), .bool s.only] 0
        have hn7 : (Value.slice (some ⟨g, 0, none⟩) (goodL s) c5).ownBlock ≠ some (w.heap.size + 1) := by simp only [Value.ownBlock]; intro e; injection e with e; exact n7 e
        have o1 := ownsRow_setCell_other own6 (a := ⟨w.heap.size + 1, 0, none⟩) hn7 (.string ((⟨#[113]⟩ : ByteArray) ++ strOf [byteOf (97 + m)]))
        have o2 := ownsRow_setCell_other o1 (a := ⟨w.heap.size + 1, 1, none⟩) hn7 (.slice (some ⟨g, 0, none⟩) (goodL s) c5)
        have o3 := ownsRow_setCell_other o2 (a := ⟨w.heap.size + 1, 2, none⟩) hn7 (.int .i64 (q : Int))
        have o4 := ownsRow_setCell_other o3 (a := ⟨w.heap.size + 1, 3, none⟩) hn7 (.bool s.only)
        rw [colCells_set _ q ⟨⟨#[]⟩, 0, false⟩ (by rw [goodCols_len]; omega), hq] at o4
        have o5 := own_more (base := w.heap.size) o4 (by have := t2.size; omega)
        have hmz : (z % 26).toNat = m := by omega
        rw [← hq] at o5
        have R6 := Lib.hid r6
        have TH := Lib.hid th6
        have FIN := Lib.hid (And.intro o5 (And.intro t7 b7))
        have HM := Lib.hid hmz
        clear hmz o1 o2 o3 o4 o5 t7 hn7
        have hx1 : ¬ ((goodL s : Int) < 1) := by omega
        have hl2 : (s.cols.length : Int) ≤ (goodL s : Int) ∧ decide (goodL s < s.cols.length) = false ∨ ((goodL s : Int) < (s.cols.length : Int) ∧ decide (goodL s < s.cols.length) = true) ∧ 6 ≤ (goodL s : Int) := by
          by_cases h : goodL s < s.cols.length
          · exact .inr ⟨⟨by omega, decide_eq_true h⟩, by omega⟩
          · exact .inl ⟨by omega, decide_eq_false h⟩
        have HQ := Lib.hid hq
        clear hq hq'
        clear hW5 hg5 own5 t5 hb5 hg hb2 hb4 own r6 th6 own6 t6 b7 hg6 hb6 hlt hlt' hsr ht ht0 b2 b4 t2 hkd hf hs hky hw2'
        rcases hl2 with ⟨y1, y2⟩ | ⟨⟨y1, y2⟩, y3⟩
        all_goals
          go_wp2_with fail
          refine (WK.out _).mono ?_
          rintro e ww ⟨rfl, rfl⟩
          have R6' := R6.out
          have TH' := TH.out
          go_wp2_with (first
            | (refine wpList_load_mid rfl 30 (.tmp 5) rfl q5 0 rfl _ _ R6' Try.underlying30 rfl hsz30 ?_)
            | fail)
          have F := FIN.out
          (try simp only [Exit.inBlock, Exit.then])
          refine bodyPost_ret (results_cell_row rfl _ _ (w.heap.size + 1) _ _ _ _ rfl F.2.2 Try.underlying30 rfl (by kernel_rfl)) rfl ?_
          refine ⟨g, c5, ?_, ?_, F.2.1⟩
          · rw [← HQ.out, show (goodS s z).name = (⟨#[113]⟩ : ByteArray) ++ strOf [byteOf (97 + m)] by unfold goodS; rw [HM.out]]; rfl
          · unfold goodS
            rw [← HQ.out]
            exact F.1
end Go.Proofs.Ytdllgnccjejhiaa
