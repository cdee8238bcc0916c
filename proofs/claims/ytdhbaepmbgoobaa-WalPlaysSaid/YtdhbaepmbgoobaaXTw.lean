/- The document's disk, as it lies in memory; a new one; an operation is counted; a page is read. The document's disk: a page is written. The document's log: first, row, records. The document's log: records. The document's log: Scan, Open; they tell what the program's tell. Is a disk the document's? Are both logs' disks, and what is told of them, alike? A disk and the document's, side by side, beside kept blocks. -/
import Derived.Test.YtdhbaepmbgoobaaDLaw8
import Derived.Test.YtdhbaepmbgoobaaWRead
import Derived.Test.YtdhbaepmbgoobaaFill
import Derived.Test.YtdhbaepmbgoobaaWLook
import Derived.Test.YtdhbaepmbgoobaaRef1S
import Derived.Test.YtdhbaepmbgoobaaWScan
import Derived.Test.YtdhbaepmbgoobaaRegl
import Derived.Test.YtdhbaepmbgoobaaWRws
namespace Go.Proofs.Ytdhbaepmbgoobaa
open Go.RowKit
set_option linter.unusedVariables false
set_option maxRecDepth 10000
set_option linter.unusedSimpArgs false
set_option linter.unnecessarySimpa false

/-- Where it lies: the disk, its pages as they are, as synced; their slices' caps; the slice of its Writes. -/
structure RL where
  g : Nat
  n : Nat
  k : Nat
  cn : Nat
  ck : Nat
  v : Value
def RL.all (D : RL) : List Nat := D.g :: D.n :: D.k :: D.v.ownBlock.toList
def RL.head (D : RL) (p : Nat) (st : DS) : List Value := [.slice (some ⟨D.n, 0, none⟩) p D.cn, .slice (some ⟨D.k, 0, none⟩) p D.ck, D.v, .int .i64 st.left, .bool st.dead]
structure RIs (w : World) (B : Nat) (D : RL) (p : Nat) (st : DS) : Prop where
  head : Blk w D.g (D.head p st) 96
  now : ∃ tl, Blk w D.n (bvs st.now ++ tl) 98
  syn : ∃ tl, Blk w D.k (bvs st.synced ++ tl) 98
  own : w.ownsRow B 103 65 D.v st.writes.length (flatW st.writes)
  lenS : st.synced.length = p * 64
  lenN : st.now.length = p * 64
  left0 : 0 ≤ st.left ∧ st.left ≤ 9223372036854775807
  pages : 2 ≤ p ∧ p ≤ 4096
  caps : p ≤ D.cn ∧ D.cn ≤ 9223372036854775807 ∧ p ≤ D.ck ∧ D.ck ≤ 9223372036854775807
  ap1 : D.g ≠ D.n ∧ D.g ≠ D.k ∧ D.n ≠ D.k
  ap2 : D.v.ownBlock ≠ some D.g ∧ D.v.ownBlock ≠ some D.n ∧ D.v.ownBlock ≠ some D.k
  low : B ≤ D.g ∧ B ≤ D.n ∧ B ≤ D.k
/-- What an operation leaves. -/
structure RDid (w : World) (B : Nat) (D : RL) (p : Nat) (st : DS) (w' : World) (D' : RL) : Prop where
  is : RIs w' B D' p st
  same : D'.g = D.g
  turns : Turns D.all w w'
  fresh : ∀ x ∈ D'.all, x ∈ D.all ∨ w.heap.size ≤ x
theorem RIs.lt {w : World} {B : Nat} {D : RL} {p : Nat} {st : DS} (h : RIs w B D p st) : ∀ x ∈ D.all, x < w.heap.size := by
  intro x hx
  simp only [RL.all, List.mem_cons] at hx
  rcases hx with rfl | rfl | rfl | hx
  · exact h.head.lt
  · obtain ⟨_, h⟩ := h.now; exact h.lt
  · obtain ⟨_, h⟩ := h.syn; exact h.lt
  · exact (h.own.lt x (by simpa using hx)).2
theorem RIs.lowAll {w : World} {B : Nat} {D : RL} {p : Nat} {st : DS} (h : RIs w B D p st) : ∀ x ∈ D.all, B ≤ x := by
  intro x hx
  simp only [RL.all, List.mem_cons] at hx
  rcases hx with rfl | rfl | rfl | hx
  · exact h.low.1
  · exact h.low.2.1
  · exact h.low.2.2
  · exact (h.own.lt x (by simpa using hx)).1
/-- Where other blocks turn the disk stands. -/
theorem RIs.turns {w w' : World} {B : Nat} {D : RL} {p : Nat} {st : DS} {L : List Nat} (h : RIs w B D p st) (t : Turns L w w') (hL : ∀ x ∈ L, x ∉ D.all) : RIs w' B D p st :=
  ⟨h.head.turns t (fun hm => hL _ hm (by simp [RL.all])), by obtain ⟨tl, h1⟩ := h.now; exact ⟨tl, h1.turns t (fun hm => hL _ hm (by simp [RL.all]))⟩, by obtain ⟨tl, h1⟩ := h.syn; exact ⟨tl, h1.turns t (fun hm => hL _ hm (by simp [RL.all]))⟩,
    own_wL h.own t (fun x hx e => hL x hx (by simp [RL.all, e])), h.lenS, h.lenN, h.left0, h.pages, h.caps, h.ap1, h.ap2, h.low⟩
theorem RIs.did {w : World} {B : Nat} {D : RL} {p : Nat} {st : DS} (h : RIs w B D p st) : RDid w B D p st w D := ⟨h, rfl, Turns.refl _ _, fun _ hx => .inl hx⟩
theorem RDid.trans {w w1 w2 : World} {B : Nat} {D D1 D2 : RL} {p : Nat} {st1 st2 : DS} (h : RDid w B D p st1 w1 D1) (k : RDid w1 B D1 p st2 w2 D2) : RDid w B D p st2 w2 D2 := by
  refine ⟨k.is, k.same.trans h.same, h.turns.trans k.turns (fun x hx => h.fresh x hx), fun x hx => ?_⟩
  rcases k.fresh x hx with h1 | h1
  · exact h.fresh x h1
  · exact .inr (Nat.le_trans h.turns.size h1)
/-- A cell of the head is stored. -/
theorem RIs.own_other {w : World} {B n g : Nat} {v : Value} {xs : List Value} (h : w.ownsRow B 103 65 v n xs) (hg : v.ownBlock ≠ some g) (k : Nat) (u : Value) : (w.setCell ⟨g, k, none⟩ u).ownsRow B 103 65 v n xs :=
  own_wL h ((Turns.refl [g] w).setCell (p := ⟨g, k, none⟩) (.inl (by simp)) u) (by intro x hx; simp at hx; subst hx; exact hg)
theorem RIs.set3 {w : World} {B : Nat} {D : RL} {p : Nat} {st : DS} (h : RIs w B D p st) (l : Int) (hl : 0 ≤ l ∧ l ≤ 9223372036854775807) : RDid w B D p ⟨l, st.dead, st.synced, st.now, st.writes⟩ (w.setCell ⟨D.g, 3, none⟩ (.int .i64 l)) D := by
  refine ⟨⟨?_, ?_, ?_, RIs.own_other h.own h.ap2.1 _ _, h.lenS, h.lenN, hl, h.pages, h.caps, h.ap1, h.ap2, h.low⟩, rfl, (Turns.refl _ _).setCell (p := ⟨D.g, 3, none⟩) (.inl (by simp [RL.all])) _, fun x hx => .inl hx⟩
  · have := h.head.set 3 (.int .i64 l)
    exact this
  · obtain ⟨tl, h1⟩ := h.now; exact ⟨tl, h1.other (p := ⟨D.g, 3, none⟩) h.ap1.1 _⟩
  · obtain ⟨tl, h1⟩ := h.syn; exact ⟨tl, h1.other (p := ⟨D.g, 3, none⟩) h.ap1.2.1 _⟩
theorem RIs.set4 {w : World} {B : Nat} {D : RL} {p : Nat} {st : DS} (h : RIs w B D p st) (b : Bool) : RDid w B D p ⟨st.left, b, st.synced, st.now, st.writes⟩ (w.setCell ⟨D.g, 4, none⟩ (.bool b)) D := by
  refine ⟨⟨?_, ?_, ?_, RIs.own_other h.own h.ap2.1 _ _, h.lenS, h.lenN, h.left0, h.pages, h.caps, h.ap1, h.ap2, h.low⟩, rfl, (Turns.refl _ _).setCell (p := ⟨D.g, 4, none⟩) (.inl (by simp [RL.all])) _, fun x hx => .inl hx⟩
  · have := h.head.set 4 (.bool b)
    exact this
  · obtain ⟨tl, h1⟩ := h.now; exact ⟨tl, h1.other (p := ⟨D.g, 4, none⟩) h.ap1.1 _⟩
  · obtain ⟨tl, h1⟩ := h.syn; exact ⟨tl, h1.other (p := ⟨D.g, 4, none⟩) h.ap1.2.1 _⟩

theorem T64r : SliceTy Try.prog 93 98 (.agg (Array.replicate 64 (.int .u8 0))) 64 64 := ⟨Try.underlying93, by kernel_rfl, by kernel_rfl, by omega⟩
theorem T65r : SliceTy Try.prog 94 103 (.agg (#[.int .i64 0] ++ Array.replicate 64 (.int .u8 0))) 65 72 := ⟨Try.underlying94, by kernel_rfl, by kernel_rfl, by omega⟩
theorem run_make_rpages (p : Nat) (hp : p ≤ 4096) (w : World) :
    (Instr.makeSlice 93 (.int .i64 (p : Int)) (.int .i64 (p : Int))).run Try.prog w = .ok (.slice (some ⟨w.heap.size, 0, none⟩) p p) (w.alloc (.cells (bvs (List.replicate (p * 64) 0)).toArray 98)) := by
  obtain ⟨i, hi, hz, hsz, hby⟩ := info_parts T64r.info
  have hr := run_make (P := Try.prog) w _ _ i _ T64r.und hi hz .i64 .i64 p p (by omega) (by omega) (by rw [hby]; omega) (by omega)
  simp only [Int.toNat_natCast] at hr
  rw [hr, hsz, ← zeros64_bvs]
  rfl
theorem zero_rdisk (w : World) : (zeroValue 96).run Try.prog w = .ok (.agg #[.slice none 0 0, .slice none 0 0, .slice none 0 0, .int .i64 0, .bool false]) w := by kernel_rfl
theorem RNew_end (w : World) (p s m : Nat) (h2 : 2 ≤ p) (hp : p ≤ 4096) (h : (s = w.heap.size ∧ m = w.heap.size + 1) ∨ (s = w.heap.size + 1 ∧ m = w.heap.size)) :
    RIs (((w.alloc (.cells (bvs (List.replicate (p * 64) 0)).toArray 98)).alloc (.cells (bvs (List.replicate (p * 64) 0)).toArray 98)).alloc (.cells #[.slice (some ⟨s, 0, none⟩) p p, .slice (some ⟨m, 0, none⟩) p p, .slice none 0 0, .int .i64 0, .bool false] 96)).drew
      w.heap.size ⟨w.heap.size + 1 + 1, s, m, p, p, .slice none 0 0⟩ p ⟨0, false, List.replicate (p * 64) 0, List.replicate (p * 64) 0, []⟩ ∧
    Turns [] w (((w.alloc (.cells (bvs (List.replicate (p * 64) 0)).toArray 98)).alloc (.cells (bvs (List.replicate (p * 64) 0)).toArray 98)).alloc (.cells #[.slice (some ⟨s, 0, none⟩) p p, .slice (some ⟨m, 0, none⟩) p p, .slice none 0 0, .int .i64 0, .bool false] 96)).drew := by
  have hl : (List.replicate (p * 64) (0 : UInt8)).length = p * 64 := by simp
  generalize List.replicate (p * 64) (0 : UInt8) = Z at *
  have b1 : Blk (w.alloc (.cells (bvs Z).toArray 98)) w.heap.size (bvs Z) 98 := Blk.new _ _ _
  have b2 : Blk ((w.alloc (.cells (bvs Z).toArray 98)).alloc (.cells (bvs Z).toArray 98)) (w.heap.size + 1) (bvs Z) 98 := by
    have := Blk.new (w.alloc (.cells (bvs Z).toArray 98)) (bvs Z) 98
    simpa using this
  have b3 := Blk.new ((w.alloc (.cells (bvs Z).toArray 98)).alloc (.cells (bvs Z).toArray 98)) [.slice (some ⟨s, 0, none⟩) p p, .slice (some ⟨m, 0, none⟩) p p, .slice none 0 0, .int .i64 0, .bool false] 96
  have hsz : ((w.alloc (.cells (bvs Z).toArray 98)).alloc (.cells (bvs Z).toArray 98)).heap.size = w.heap.size + 1 + 1 := by simp
  rw [hsz] at b3
  have c1 := ((b1.alloc (.cells (bvs Z).toArray 98)).alloc (.cells #[.slice (some ⟨s, 0, none⟩) p p, .slice (some ⟨m, 0, none⟩) p p, .slice none 0 0, .int .i64 0, .bool false] 96)).drew
  have c2 := (b2.alloc (.cells #[.slice (some ⟨s, 0, none⟩) p p, .slice (some ⟨m, 0, none⟩) p p, .slice none 0 0, .int .i64 0, .bool false] 96)).drew
  refine ⟨⟨b3, ?_, ?_, World.ownsRow_nil _ _ _ _, hl, hl, ⟨by simp, by simp⟩, ⟨h2, hp⟩, ?_, ?_, ⟨by simp [Value.ownBlock], by simp [Value.ownBlock], by simp [Value.ownBlock]⟩, ?_⟩, ?_⟩
  · refine ⟨[], ?_⟩
    rw [List.append_nil]
    rcases h with ⟨rfl, rfl⟩ | ⟨rfl, rfl⟩
    · exact c1
    · exact c2
  · refine ⟨[], ?_⟩
    rw [List.append_nil]
    rcases h with ⟨rfl, rfl⟩ | ⟨rfl, rfl⟩
    · exact c2
    · exact c1
  · show p ≤ p ∧ p ≤ 9223372036854775807 ∧ p ≤ p ∧ p ≤ 9223372036854775807
    omega
  · show w.heap.size + 1 + 1 ≠ s ∧ w.heap.size + 1 + 1 ≠ m ∧ s ≠ m
    omega
  · show w.heap.size ≤ w.heap.size + 1 + 1 ∧ w.heap.size ≤ s ∧ w.heap.size ≤ m
    omega
  · exact ((((Turns.refl _ _).alloc _).alloc _).alloc _).drew

set_option maxHeartbeats 1000000 in
theorem RNew_any (p : Nat) (h2 : 2 ≤ p) (hp : p ≤ 4096) (w : World) :
    Calls Try.prog 16 #[.int .i64 p] w fun e w' => ∃ D, e = .returned (.tuple #[.pointer (some ⟨D.g, 0, none⟩), .int .i64 0]) ∧ RIs w' w.heap.size D p ⟨0, false, List.replicate (p * 64) 0, List.replicate (p * 64) 0, []⟩ ∧ Turns [] w w' := by
  have mk := run_make_rpages p hp
  have zd := zero_rdisk
  generalize hZ : bvs (List.replicate (p * 64) 0) = Z at mk
  go_enter Try.func16, Try.ntmps16
  go_wp2_with fail
  go_region
  all_goals go_wp2
  all_goals (go_ret2; subst hZ)
  · exact ⟨⟨_, _, _, _, _, _⟩, rfl, RNew_end w p _ _ h2 hp (.inl ⟨rfl, rfl⟩)⟩
  · exact ⟨⟨_, _, _, _, _, _⟩, rfl, RNew_end w p _ _ h2 hp (.inr ⟨rfl, rfl⟩)⟩

set_option maxHeartbeats 1000000 in
theorem Rop_any (w : World) (B : Nat) (D : RL) (p : Nat) (st : DS) (h : RIs w B D p st) (hd : st.dead = false) :
    Calls Try.prog 40 #[.pointer (some ⟨D.g, 0, none⟩)] w fun e w' => e = .returned (.bool (decide (st.left = 1))) ∧ RDid w B D p st.counted w' D := by
  have c3 := h.head.cell 3
  have c4 := h.head.cell 4
  have f3 := h.head.free 3
  have f4 := h.head.free 4
  have h0 := h.left0
  simp only [RL.head, List.getElem?_cons_zero, List.getElem?_cons_succ] at c3 c4
  rw [hd] at c4
  by_cases hz : st.left = 0
  · have HF : RDid w B D p st.counted w D := by
      have e : st.counted = st := by
        unfold DS.counted
        cases st
        simp only at hz hd
        subst hz
        subst hd
        rfl
      rw [e]; exact h.did
    have HF := Lib.hid HF
    rw [hz] at c3
    have e1 : decide (st.left = 1) = false := by rw [hz]; rfl
    rw [e1]
    clear h hd hz e1 h0
    go_enter Try.func40, Try.ntmps40
    go_wp2_with fail
    go_ret
    exact ⟨rfl, HF.out⟩
  · have hp : 0 < st.left := by omega
    have D1 := h.set3 (st.left - 1) (by omega)
    have D2 := D1.is.set4 (decide (st.left - 1 = 0))
    have D3 := D1.trans D2
    have e : (⟨st.left - 1, decide (st.left - 1 = 0), st.synced, st.now, st.writes⟩ : DS) = st.counted := by
      unfold DS.counted
      rw [if_pos hp, hd, Bool.false_or]
      have : decide (st.left - 1 = 0) = decide (st.left = 1) := by
        by_cases h1 : st.left = 1
        · rw [decide_eq_true h1, decide_eq_true (by omega)]
        · rw [decide_eq_false h1, decide_eq_false (by omega)]
      rw [this]
    simp only at D3
    rw [e] at D3
    obtain ⟨l, hl⟩ : ∃ l, l = st.left := ⟨_, rfl⟩
    rw [← hl] at c3 hp h0 D3 ⊢
    have HF := Lib.hid D3
    have e1 : decide (l - 1 = 0) = decide (l = 1) := by
      by_cases h1 : l = 1
      · rw [decide_eq_true h1, decide_eq_true (by omega)]
      · rw [decide_eq_false h1, decide_eq_false (by omega)]
    have E1 := Lib.hid (show (l - 1 == 0) = decide (l = 1) from e1)
    clear h hd hz hl D1 D2 D3 e e1
    go_enter Try.func40, Try.ntmps40
    go_wp2_with fail
    go_ret
    exact ⟨by first | rfl | (simp; exact E1.out) | (rw [E1.out]; rfl), HF.out⟩
set_option maxHeartbeats 2000000 in
theorem RRead_any (w : World) (B : Nat) (D : RL) (p n : Nat) (st : DS) (h : RIs w B D p st) (hn : n < p) (hd : st.dead = false) :
    Calls Try.prog 55 #[.pointer (some ⟨D.g, 0, none⟩), .int .i64 n] w fun e w' => ∃ v', e = .returned (.tuple #[v', .int .i64 0]) ∧
      w'.ownsRow w.heap.size 5 1 v' 64 (bvs (pageAt st.now n)) ∧ Turns [] w w' := by
  have hp := h.pages
  have c0 := h.head.cell 0
  have c4 := h.head.cell 4
  simp only [RL.head, List.getElem?_cons_zero, List.getElem?_cons_succ] at c0 c4
  rw [hd] at c4
  obtain ⟨tl, hnw⟩ := h.now
  have hlen := h.lenN
  have sl := fun (c : Nat) (hc : 64 ≤ c) (hm : c ≤ maxLen) => hnw.slice (n * 64) 64 c (by rw [List.length_append, bvs_length, hlen]; omega) hc hm
  have e1 : ((bvs st.now ++ tl).drop (n * 64)).take 64 = bvs (pageAt st.now n) := by
    rw [List.drop_append_of_le_length (by rw [bvs_length, hlen]; omega), List.take_append_of_le_length (by rw [List.length_drop, bvs_length, hlen]; omega)]
    unfold pageAt bvs; rw [List.map_take, List.map_drop]
  simp only [e1] at sl
  have hnl : ¬ ((n : Int) < 0) := by omega
  have hnp : (n : Int) < p := by omega
  have SL := Lib.hid sl
  clear h hnw e1 sl hd hlen
  go_enter Try.func55, Try.ntmps55
  have c0a := cellW ((Turns.refl [] w).alloc (.cells #[] 5)) c0
  have hown : (w.alloc (.cells #[] 5)).ownsRow w.heap.size 5 1 (.slice (some ⟨w.heap.size, 0, none⟩) 0 0) 0 [] :=
    World.ownsRow_made w #[] 0 (Nat.le_refl _) (Nat.zero_le _) (by simp)
  have hs1 : ∀ c, 64 ≤ c → c ≤ maxLen → Sl (w.alloc (.cells #[] 5)) w.heap.size 1 (.slice (some ⟨D.n, n * 64, none⟩) 64 c) 64 (bvs (pageAt st.now n)) := fun c h1 h2 => (SL.out c h1 h2).alloc (Nat.le_refl _) _
  have HS1 := Lib.hid hs1
  have HO := Lib.hid hown
  clear hs1
  go_wp2_with (at_builtin; refine wpList_append _ rfl (.tmp 21) (.tmp 28) rfl (run_append_rd _ T8 _ hown (HS1.out 64 (by omega) (by simp [maxLen])) (bvs_one _) (by simp only [maxLen]; omega) (by omega) (by simp)) rfl rfl ?_; intro v' w' ap)
  go_ret2
  exact ⟨v', rfl, by simpa using ap.own, Turns.of_below (L := []) (ap.below ((Below.refl _ _).alloc (Nat.le_refl _) _) HO.out (Nat.le_refl _) (by simp))⟩
/-- Where the page is none, or the power is gone. -/
theorem RRead_bad (w : World) (B : Nat) (D : RL) (p : Nat) (n : Int) (st : DS) (h : RIs w B D p st) (hc : st.checked p n 0 ≠ 0) :
    Calls Try.prog 55 #[.pointer (some ⟨D.g, 0, none⟩), .int .i64 n] w fun e w' => e = .returned (.tuple #[.slice none 0 0, .int .i64 (st.checked p n 0)]) ∧ w = w' := by
  have hp := h.pages
  have c0 := h.head.cell 0
  have c4 := h.head.cell 4
  simp only [RL.head, List.getElem?_cons_zero, List.getElem?_cons_succ] at c0 c4
  obtain ⟨q, hq⟩ : ∃ q, q = st.checked p n 0 := ⟨_, rfl⟩
  rw [← hq] at hc ⊢
  unfold DS.checked at hq
  clear h
  cases hd : st.dead
  · rw [hd] at c4 hq
    rw [if_neg (by decide)] at hq
    by_cases h1 : n < 0
    · rw [if_pos (.inl h1)] at hq
      subst hq
      clear hd
      go_enter Try.func55, Try.ntmps55
      go_wp2_with fail
      go_ret2
      exact ⟨rfl, rfl⟩
    · by_cases h2 : (p : Int) ≤ n
      · rw [if_pos (.inr (.inl h2))] at hq
        subst hq
        clear hd
        go_enter Try.func55, Try.ntmps55
        go_wp2_with fail
        go_ret2
        exact ⟨rfl, rfl⟩
      · rw [if_neg (by omega)] at hq
        exact absurd hq hc
  · rw [hd] at c4 hq
    rw [if_pos rfl] at hq
    subst hq
    clear hd
    go_enter Try.func55, Try.ntmps55
    go_wp2_with fail
    go_ret2
    exact ⟨rfl, rfl⟩
end Go.Proofs.Ytdhbaepmbgoobaa
namespace Go.Proofs.Ytdhbaepmbgoobaa
open Go.RowKit
set_option linter.unusedVariables false
set_option linter.unusedSimpArgs false
set_option linter.unnecessarySimpa false

theorem rapd_blk {B : Nat} {W W7 : World} {v v7 : Value} {k m : Nat} {xs ys : List Value} (ap : Apd B 103 65 W v k xs W7 v7 m ys) {g : Nat} {cs : List Value} {t : TypeId} (h : Blk W g cs t) (hg : v.ownBlock ≠ some g) : Blk W7 g cs t := by
  unfold Blk
  rw [ap.grown.block g h.lt (fun e => hg e.symm)]
  exact h
theorem rwrites_did {B p n : Nat} {W3 W7 : World} {D : RL} {st : DS} {v7 : Value} {o : Obj} {pg : List UInt8} (D3 : RIs W3 B D p st)
    (ap : Apd B 103 65 (W3.drew.alloc o) D.v st.writes.length (flatW st.writes) W7 v7 (st.writes.length + 1) (flatW st.writes ++ (Value.int .i64 n :: bvs pg))) :
    RDid W3 B D p ⟨st.left, st.dead, st.synced, st.now, st.writes ++ [(n, pg)]⟩ (W7.setCell ⟨D.g, 2, none⟩ v7) ⟨D.g, D.n, D.k, D.cn, D.ck, v7⟩ := by
  have hsz : (W3.drew.alloc o).heap.size = W3.heap.size + 1 := by simp
  have l1 := D3.head.lt
  obtain ⟨tn, hn⟩ := D3.now
  obtain ⟨tk, hk⟩ := D3.syn
  have l2 := hn.lt
  have l3 := hk.lt
  have hv7 : v7.ownBlock ≠ some D.g ∧ v7.ownBlock ≠ some D.n ∧ v7.ownBlock ≠ some D.k := by
    rcases ap.lies with e | ⟨g, e, hg⟩
    · rw [e]; exact D3.ap2
    · rw [e, hsz] at *
      exact ⟨by intro h; injection h with h; omega, by intro h; injection h with h; omega, by intro h; injection h with h; omega⟩
  have b1 := rapd_blk ap (D3.head.drew.alloc o) D3.ap2.1
  have b2 := rapd_blk ap (hn.drew.alloc o) D3.ap2.2.1
  have b3 := rapd_blk ap (hk.drew.alloc o) D3.ap2.2.2
  have hin : ∀ k, D.v.ownBlock = some k → k ∈ D.all := by intro k hk; simp [RL.all, hk]
  have t7 : Turns D.all W3 W7 := ((Turns.refl D.all W3).drew.alloc o).trans (Turns.of_grown (L := D.all) ap.grown (fun k hk => .inl (hin k hk))) (fun x hx => .inl hx)
  refine ⟨⟨?_, ⟨tn, b2.other (p := ⟨D.g, 2, none⟩) D3.ap1.1 v7⟩, ⟨tk, b3.other (p := ⟨D.g, 2, none⟩) D3.ap1.2.1 v7⟩, ?_, D3.lenS, D3.lenN, D3.left0, D3.pages, D3.caps, D3.ap1, hv7, D3.low⟩, rfl, t7.setCell (p := ⟨D.g, 2, none⟩) (.inl (by simp [RL.all])) v7, ?_⟩
  · exact b1.set 2 v7
  · have := ap.own
    rw [← flatW_snoc] at this
    have hw : (st.writes ++ [(n, pg)]).length = st.writes.length + 1 := by simp
    show World.ownsRow _ B 103 65 v7 (st.writes ++ [(n, pg)]).length _
    rw [hw]
    exact RIs.own_other this hv7.1 _ _
  · intro x hx
    simp only [RL.all, List.mem_cons] at hx ⊢
    rcases hx with h | h | h | h
    · exact .inl (.inl h)
    · exact .inl (.inr (.inl h))
    · exact .inl (.inr (.inr (.inl h)))
    · rcases ap.lies with e | ⟨g, e, hg⟩
      · rw [e] at h; exact .inl (.inr (.inr (.inr h)))
      · rw [e] at h
        simp at h
        subst h
        rw [hsz] at hg
        exact .inr (by omega)
theorem spl_app {α : Type} (a b vs : List α) (o : Nat) (h : o + vs.length ≤ a.length) : spl (a ++ b) o vs = spl a o vs ++ b := by
  apply List.ext_getElem?
  intro i
  by_cases h1 : i < o ∨ o + vs.length ≤ i
  · rw [spl_out _ _ _ _ h1]
    by_cases h2 : i < a.length
    · rw [List.getElem?_append_left h2, List.getElem?_append_left (by rw [spl_length]; exact h2), spl_out _ _ _ _ h1]
    · rw [List.getElem?_append_right (by omega), List.getElem?_append_right (by rw [spl_length]; omega), spl_length]
  · obtain ⟨j, rfl⟩ : ∃ j, i = o + j := ⟨i - o, by omega⟩
    rw [spl_in _ _ _ _ (by omega) (by rw [List.length_append]; omega), List.getElem?_append_left (by rw [spl_length]; omega), spl_in _ _ _ _ (by omega) h]
/-- A page is laid over one of the pages as they are. -/
theorem RIs.lay {w : World} {B : Nat} {D : RL} {p n : Nat} {st : DS} {pg : List UInt8} (h : RIs w B D p st) (hn : n < p) (hpg : pg.length = 64) : RDid w B D p ⟨st.left, st.dead, st.synced, spl st.now (n * 64) pg, st.writes⟩ (w.setCells D.n (n * 64) (bvs pg)) D := by
  have hbl : (bvs pg).length = 64 := by rw [bvs_length, hpg]
  have t := Turns.setCells (L := [D.n]) (b := D.n) (.inl (by simp)) (bvs pg) (n * 64) (Turns.refl [D.n] w)
  refine ⟨⟨h.head.otherCells (Ne.symm h.ap1.1) _ _, ?_, ?_, own_wL h.own t (by intro x hx; simp at hx; subst hx; exact h.ap2.2.1), h.lenS, by rw [spl_length]; exact h.lenN, h.left0, h.pages, h.caps, h.ap1, h.ap2, h.low⟩, rfl, t.mono (fun x hx => .inl (by simp at hx; subst hx; simp [RL.all])), fun x hx => .inl hx⟩
  · obtain ⟨tl, h1⟩ := h.now
    refine ⟨tl, ?_⟩
    have h2 := h1.setCells (bvs pg) (n * 64)
    rw [spl_app _ _ _ _ (by rw [hbl, bvs_length, h.lenN]; omega)] at h2
    have e1 : spl (bvs st.now) (n * 64) (bvs pg) = bvs (spl st.now (n * 64) pg) := by unfold bvs; rw [← spl_map]
    rw [e1] at h2
    exact h2
  · obtain ⟨tl, h1⟩ := h.syn
    exact ⟨tl, h1.otherCells h.ap1.2.2 _ _⟩
theorem page_step (bs : List UInt8) (k : Nat) (hk : k < bs.length) (hl : bs.length ≤ 64) : (bvs (pageOf (bs.take k))).set k (u8v bs[k]) = bvs (pageOf (bs.take (k + 1))) := by
  have h1 : (bs.take k).length = k := by rw [List.length_take]; omega
  have h2 : (bs.take (k + 1)).length = k + 1 := by rw [List.length_take]; omega
  have e : (pageOf (bs.take k)).set k bs[k] = pageOf (bs.take (k + 1)) := by
    apply List.ext_getElem?
    intro i
    rw [List.getElem?_set]
    unfold pageOf
    by_cases hik : k = i
    · subst hik
      rw [if_pos rfl, if_pos (by rw [List.length_append, List.length_replicate]; omega), List.getElem?_append_left (by omega), List.getElem?_take, if_pos (by omega), List.getElem?_eq_getElem hk]
    · rw [if_neg hik]
      by_cases hlt : i < k
      · rw [List.getElem?_append_left (by omega), List.getElem?_append_left (by omega), List.getElem?_take, List.getElem?_take, if_pos hlt, if_pos (by omega)]
      · rw [List.getElem?_append_right (by omega), List.getElem?_append_right (by omega), List.getElem?_replicate, List.getElem?_replicate]
        by_cases h64 : i < 64
        · rw [if_pos (by omega), if_pos (by omega)]
        · rw [if_neg (by omega), if_neg (by omega)]
  rw [← e]
  unfold bvs
  rw [List.map_set]
/-- The loop: so many bytes are laid in. -/
def RWlR (w : World) (P n : Nat) (bs : List UInt8) (i : Value) (wr : World) : Prop := ∃ k : Nat, k ≤ bs.length ∧ i = .int .i64 k ∧ Blk wr P (.int .i64 n :: bvs (pageOf (bs.take k))) 103 ∧ Turns [] w wr

set_option maxRecDepth 100000 in
set_option maxHeartbeats 8000000 in
theorem RWrite_any (w : World) (B : Nat) (D : RL) (p n : Nat) (st : DS) (A : Option Addr) (c : Nat) (bs : List UInt8) (h : RIs w B D p st) (hb : Sl w w.heap.size 1 (.slice A bs.length c) bs.length (bvs bs)) (hn : n < p) (hl : bs.length ≤ 64) (hd : st.dead = false) (hwl : st.writes.length ≤ 1000000) :
    Calls Try.prog 18 #[.pointer (some ⟨D.g, 0, none⟩), .int .i64 n, .slice A bs.length c] w fun e w' => e = .returned (.int .i64 st.code) ∧ ∃ D', RDid w B D p (st.wrote n (pageOf bs)) w' D' := by
  have hp := h.pages
  have c0 := h.head.cell 0
  have c4 := h.head.cell 4
  simp only [RL.head, List.getElem?_cons_zero, List.getElem?_cons_succ] at c0 c4
  rw [hd] at c4
  have hnl : ¬ ((n : Int) < 0) := by omega
  have hnp : (n : Int) < p := by omega
  have hbl : (bs.length : Int) ≤ 64 := by omega
  obtain ⟨Z, hZs, hZe, hz⟩ : ∃ Z : Array Value, Z.size = 65 ∧ Z.toList = (.int .i64 0 :: bvs (zeros 64)) ∧ ∀ w, (zeroValue 103).run Try.prog w = .ok (.agg Z) w :=
    ⟨#[.int .i64 0] ++ Array.replicate 64 (.int .u8 0), by simp, by simp [bvs, zeros, u8v], (zero_of_info (P := Try.prog) (n := 65) (by kernel_rfl)).1⟩
  have hZ0 : ¬ Z = #[] := by intro e; rw [e] at hZs; simp at hZs
  have hzl : (bvs (zeros 64)).length = 64 := by rw [bvs_length, zeros_length]
  have hse : Z.toList.set 0 (.int .i64 n) = .int .i64 n :: bvs (zeros 64) := by rw [hZe]; rfl
  have hst := store_var (P := Try.prog) w Z 103 (.int .i64 n :: bvs (zeros 64)) (by rw [List.length_cons, hzl, hZs]) (by intro u hu; simp only [List.mem_cons] at hu; rcases hu with rfl | hu; rfl; exact bvs_one _ u hu)
  rw [← hse] at hst
  obtain ⟨W1, hst, hB1, t1⟩ := hst
  rw [hse] at hB1
  have HB1 := Lib.hid (And.intro hB1 t1)
  have H0 := Lib.hid (And.intro h (And.intro hb (And.intro trivial (And.intro hd hwl))))
  have HL := Lib.hid hl
  clear h hb hd hwl hZe hse hB1 t1 hzl hl
  go_enter Try.func18, Try.ntmps18
  go_wp2_with fail
  obtain ⟨P, hP⟩ : ∃ P, P = w.heap.size := ⟨_, rfl⟩
  rw [← hP]
  have HP := Lib.hid hP
  clear hP hst hz hZs hZ0
  go_loopw [8] (fun i wr => RWlR w P n bs i wr) (fun i _ => bs.length - (intOf i).toNat)
  case atStart => exact ⟨0, by omega, rfl, by rw [HP.out, List.take_zero]; exact HB1.out.1, HB1.out.2⟩
  case round =>
    obtain ⟨k, hk, rfl, bP, tx⟩ := hrel
    obtain ⟨Y, hY⟩ : ∃ Y, Y = wr := ⟨_, rfl⟩
    subst hY
    have hPn : P ∉ D.all := by intro hm; have := H0.out.1.lt _ hm; rw [HP.out] at this; omega
    by_cases hlt : k < bs.length
    · have hltI : (k : Int) < bs.length := by omega
      obtain ⟨_, _, _, ee, h1, _, _, hrd⟩ := H0.out.2.1
      injection ee with e1 _ e3
      subst e1 e3
      obtain ⟨b5, o5, e5, hb5, hc5⟩ := hrd.at_ (k := k) (by rw [bvs_length]; exact hlt)
      subst e5
      have hpl := pageOf_length (bs.take k) (by rw [List.length_take]; omega)
      have hx5 : (bvs bs)[k]'(by rw [bvs_length]; exact hlt) = u8v bs[k] := by simp [bvs]
      rw [hx5] at hc5
      obtain ⟨x, hx⟩ : ∃ x, x = bs[k] := ⟨_, rfl⟩
      rw [← hx] at hc5
      have hc6 := cellW tx hc5
      unfold u8v at hc6
      have hbp := page_step bs k hlt HL.out
      rw [← hx] at hbp
      obtain ⟨y, hy⟩ : ∃ y, (bvs (pageOf (bs.take k)))[k]? = some y := ⟨_, List.getElem?_eq_getElem (by rw [bvs_length, hpl]; have := HL.out; omega)⟩
      have q1 := bP.cell (k + 1)
      have f1 := bP.free (k + 1)
      rw [List.getElem?_cons_succ, hy] at q1
      have bP2 := bP.set (k + 1) (u8v x)
      rw [List.set_cons_succ, hbp] at bP2
      have hk64 : (k : Int) < 64 := by have := HL.out; omega
      have T2 := tx.setCell (p := ⟨P, k + 1, none⟩) (.inr (by show w.heap.size ≤ P; rw [HP.out]; exact Nat.le_refl _)) (u8v x)
      unfold u8v at bP2 T2
      have HF := Lib.hid (And.intro bP2 T2)
      clear bP2 T2 bP tx hbp hx hpl hx5 hy hrd h1 hc5 hb5 hPn
      rw [Nat.add_comm k 1] at q1 f1
      go_wp2_with fail
      go_roundw
      case rel => exact ⟨k + 1, by omega, by go_num, by first | exact HF.out.1 | (rw [Nat.add_comm 1 k]; exact HF.out.1), by first | exact HF.out.2 | (rw [Nat.add_comm 1 k]; exact HF.out.2)⟩
      case measure => (simp [intOf] <;> omega)
    · obtain rfl : k = bs.length := by omega
      rw [List.take_length] at bP
      have hpl := pageOf_length bs HL.out
      obtain ⟨pg, hpg⟩ : ∃ pg, pg = pageOf bs := ⟨_, rfl⟩
      rw [← hpg] at bP hpl
      have hbl2 : (bvs pg).length = 64 := by rw [bvs_length, hpl]
      have HPG := Lib.hid hpg
      have D3 : RIs Y B D p st := H0.out.1.turns tx (by simp)
      have hd3 := H0.out.2.2.2.1
      have hwl := H0.out.2.2.2.2
      have own3 := D3.own
      have hszY : w.heap.size ≤ Y.heap.size := tx.size
      have c2 : Y.drew.cell? ⟨D.g, 2, none⟩ = some D.v := D3.head.cell 2
      have c2' : ∀ o, (Y.drew.alloc o).cell? ⟨D.g, 2, none⟩ = some D.v := fun o => by
        rw [World.cell?_alloc_lt _ _ _ (by exact D3.head.lt)]; exact c2
      have hPv : D.v.ownBlock ≠ some P := fun e => hPn (by simp [RL.all, e])
      have hPg : D.g ≠ P := fun e => hPn (by simp [RL.all, e])
      have hPD : D.n ≠ P := fun e => hPn (by simp [RL.all, e])
      have hsz : (Try.prog.info? 103).map (·.size) = some (Value.int .i64 n :: bvs pg).length := by rw [List.length_cons, hbl2]; kernel_rfl
      have hsz2 : (Try.prog.info? 98).map (·.size) = some (bvs pg).length := by rw [hbl2]; kernel_rfl
      have hS0 : Y.drew.rangeAt P 0 (Value.int .i64 n :: bvs pg) := by
        have := bP.drew.range 0 65
        rwa [List.drop_zero, List.take_of_length_le (by rw [List.length_cons, hbl2]; omega)] at this
      have hBg : B ≤ Y.heap.size := Nat.le_trans D3.low.1 (Nat.le_of_lt D3.head.lt)
      go_upto_region 10 with fail
      refine reg_begin (fun W => W.rangeAt P 0 (Value.int .i64 n :: bvs pg)) (fun W => W.cell? ⟨D.g, 2, none⟩ = some D.v) 10 11 #[false, false, false, false, false, false, false, false, false, false, false] (by kernel_rfl) (by kernel_rfl) (by kernel_rfl) ?_
      refine reg_take 0 46 10 #[true, false, false, false, false, false, false, false, false, false, false] (by rfl) (v := ?_) rfl rfl (by kernel_rfl) (by kernel_rfl) (by kernel_rfl) (by kernel_rfl) (fun _ _ _ h => h) (by rfl) ?_ (Till.mk' hS0 c2) ?_
      rotate_left
      · intro W hS; go_simp; all_goals with_reducible rfl
      try simp only [List.setIfInBounds_toArray, List.set_cons_succ, List.set_cons_zero]
      refine reg_take 1 47 9 #[true, true, false, false, false, false, false, false, false, false, false] (by rfl) (v := ?_) rfl rfl (by kernel_rfl) (by kernel_rfl) (by kernel_rfl) (by kernel_rfl) (fun _ _ _ h => h) (by rfl) ?_ (Till.mk' hS0 c2) ?_
      rotate_left
      · intro W hS; go_simp; all_goals with_reducible rfl
      try simp only [List.setIfInBounds_toArray, List.set_cons_succ, List.set_cons_zero]
      refine reg_take 2 48 8 #[true, true, true, false, false, false, false, false, false, false, false] (by rfl) (v := ?_) rfl rfl (by kernel_rfl) (by kernel_rfl) (by kernel_rfl) (by kernel_rfl) (fun _ _ _ h => h) (by rfl) ?_ (Till.mk' hS0 c2) ?_
      rotate_left
      · intro W hS; go_simp; all_goals with_reducible rfl
      try simp only [List.setIfInBounds_toArray, List.set_cons_succ, List.set_cons_zero]
      refine reg_take 3 49 7 #[true, true, true, true, false, false, false, false, false, false, false] (by rfl) (v := ?_) rfl rfl (by kernel_rfl) (by kernel_rfl) (by kernel_rfl) (by kernel_rfl) (fun _ _ _ h => h) (by rfl) ?_ (Till.mk' hS0 c2) ?_
      rotate_left
      · intro W hS; go_simp; all_goals with_reducible rfl
      try simp only [List.setIfInBounds_toArray, List.set_cons_succ, List.set_cons_zero]
      refine reg_take_t 4 50 6 #[true, true, true, true, true, false, false, false, false, false, false] (by rfl) (v := ?_) rfl rfl (by kernel_rfl) (by kernel_rfl) (by kernel_rfl) (by kernel_rfl) (fun _ _ _ h => h) (by rfl) (by kernel_rfl) (by kernel_rfl) ?_ (Till.mk' hS0 c2) ?_
      rotate_left
      · rintro W ⟨hS, hT⟩; go_simp; all_goals with_reducible rfl
      try simp only [List.setIfInBounds_toArray, List.set_cons_succ, List.set_cons_zero]
      refine reg_take_y 5 51 5 #[true, true, true, true, true, true, false, false, false, false, false] (by rfl) rfl rfl (by kernel_rfl) (by kernel_rfl) (by kernel_rfl) (by kernel_rfl) (fun _ _ _ h => h) (yieldsIf_load_mid (by rfl) _ _ rfl P 0 (by rfl) (Value.int .i64 n :: bvs pg) _ (fun W h => h) Try.underlying103 rfl hsz) (Till.mk' hS0 c2) ?_
      try simp only [List.setIfInBounds_toArray, List.set_cons_succ, List.set_cons_zero]
      refine reg_one 6 4 #[true, true, true, true, true, true, true, false, false, false, false] (by kernel_rfl) rfl (by rfl) (by kernel_rfl) (fun K hK => ?_)
      refine wp_build_one T65r (by omega) (Value.int .i64 n :: bvs pg) (by simp [hbl2]) (.tmp 51) rfl (by rfl) ?_
      refine hK _ _ (Till.mk' (World.rangeAt_alloc hS0 _) (c2' _)) ?_
      clear hK K
      try simp only [List.setIfInBounds_toArray, List.set_cons_succ, List.set_cons_zero]
      refine reg_one 7 3 #[true, true, true, true, true, true, true, true, false, false, false] (by kernel_rfl) rfl (by rfl) (by kernel_rfl) (fun K hK => ?_)
      have hrun := (run_append_rd (Y.drew.alloc (.cells (Value.int .i64 n :: bvs pg).toArray 103)) T65r 94 (own3.drew.alloc (.cells (Value.int .i64 n :: bvs pg).toArray 103)) (Sl.new Y.drew (Value.int .i64 n :: bvs pg).toArray 103 1 65 (by simp [hbl2]) (by simp [maxLen])) (by intro u hu; simp at hu; rcases hu with rfl | hu; rfl; exact bvs_one _ u hu) (by simp only [maxLen]; omega) (by omega) (by simp; omega))
      refine wp_append_run (vs := D.v) (vx := .slice (some ⟨Y.heap.size, 0, none⟩) 1 1) _ (.tmp 50) (.tmp 52) rfl (by rfl) (by rfl) hrun ?_
      clear hrun
      intro v7 W7 ap
      obtain ⟨A7, C7, rfl⟩ := own_form ap.own
      have hP7 : Blk W7 P (.int .i64 n :: bvs pg) 103 := rapd_blk ap (bP.drew.alloc _) hPv
      have hSA : W7.rangeAt P 0 (Value.int .i64 n :: bvs pg) := by have := hP7.range 0 65; rwa [List.drop_zero, List.take_of_length_le (by rw [List.length_cons, hbl2]; omega)] at this
      have hd7 := rapd_blk ap (D3.head.drew.alloc _) D3.ap2.1
      have c7 : W7.cell? ⟨D.g, 2, none⟩ = some D.v := hd7.cell 2
      have f7 := hd7.free 2
      have hS10 : (W7.setCell ⟨D.g, 2, none⟩ (.slice A7 (st.writes.length + 1) C7)).rangeAt P 0 (Value.int .i64 n :: bvs pg) := by have := (hP7.other (p := ⟨D.g, 2, none⟩) hPg (.slice A7 (st.writes.length + 1) C7)).range 0 65; rwa [List.drop_zero, List.take_of_length_le (by rw [List.length_cons, hbl2]; omega)] at this
      refine hK _ _ (Till.mk' hSA c7) ?_
      clear hK K
      try simp only [List.setIfInBounds_toArray, List.set_cons_succ, List.set_cons_zero]
      refine reg_take 8 54 2 #[true, true, true, true, true, true, true, true, true, false, false] (by rfl) (v := ?_) rfl rfl (by kernel_rfl) (by kernel_rfl) (by kernel_rfl) (by kernel_rfl) (fun _ _ _ h => h) (by rfl) ?_ (Till.mk' hSA c7) ?_
      rotate_left
      · intro W hS; go_simp; all_goals with_reducible rfl
      try simp only [List.setIfInBounds_toArray, List.set_cons_succ, List.set_cons_zero]
      refine reg_take 9 55 1 #[true, true, true, true, true, true, true, true, true, true, false] (by rfl) (v := ?_) rfl rfl (by kernel_rfl) (by kernel_rfl) (by kernel_rfl) (by kernel_rfl) (fun _ _ _ h => h) (by rfl) ?_ (Till.mk' hSA c7) ?_
      rotate_left
      · intro W hS; go_simp; all_goals with_reducible rfl
      try simp only [List.setIfInBounds_toArray, List.set_cons_succ, List.set_cons_zero]
      refine reg_one 10 0 #[true, true, true, true, true, true, true, true, true, true, true] (by kernel_rfl) rfl (by rfl) (by kernel_rfl) (fun K hK => ?_)
      go_simp
      refine hK _ _ (Till.past hS10 (by kernel_rfl)) ?_
      clear hK K
      try simp only [List.setIfInBounds_toArray, List.set_cons_succ, List.set_cons_zero]
      refine reg_done (by kernel_rfl) ?_ _
      have DD := rwrites_did D3 ap
      obtain ⟨W8, hW8⟩ : ∃ W8, W8 = W7.setCell ⟨D.g, 2, none⟩ (.slice A7 (st.writes.length + 1) C7) := ⟨_, rfl⟩
      rw [← hW8] at DD ⊢
      have bP8 : Blk W8 P (.int .i64 n :: bvs pg) 103 := by rw [hW8]; exact hP7.other (p := ⟨D.g, 2, none⟩) hPg _
      have D8 : RIs W8.drew B _ p _ := DD.is.turns (Turns.refl [] _).drew (by simp)
      have LY := D8.lay hn hpl
      have c80 := D8.head.cell 0
      simp only [RL.head, List.getElem?_cons_zero] at c80
      have hS1 : W8.drew.cell? ⟨D.g, 0, none⟩ = some (.slice (some ⟨D.n, 0, none⟩) p D.cn) ∧ W8.drew.rangeAt P 1 (bvs pg) := ⟨c80, by
        have := bP8.drew.range 1 64
        rwa [List.drop_succ_cons, List.drop_zero, List.take_of_length_le (by omega)] at this⟩
      obtain ⟨tl, hnw⟩ := D8.now
      have hth : W8.drew.there D.n (n * 64) 64 := hnw.there (n * 64) 64 (by rw [List.length_append, bvs_length, D8.lenN]; omega)
      have bPl : Blk (W8.drew.setCells D.n (n * 64) (bvs pg)) P (.int .i64 n :: bvs pg) 103 := bP8.drew.otherCells hPD _ _
      clear hW8 ap hP7 c7 f7 hSA hS10
      go_upto_region 11 with fail
      refine reg_begin (fun W => W.cell? ⟨D.g, 0, none⟩ = some (.slice (some ⟨D.n, 0, none⟩) p D.cn) ∧ W.rangeAt P 1 (bvs pg)) (fun _ => True) 9 9 #[false, false, false, false, false, false, false, false, false] (by kernel_rfl) (by kernel_rfl) (by kernel_rfl) ?_
      refine reg_take 0 56 8 #[true, false, false, false, false, false, false, false, false] (by rfl) (v := ?_) rfl rfl (by kernel_rfl) (by kernel_rfl) (by kernel_rfl) (by kernel_rfl) (fun _ _ _ h => h) (by rfl) ?_ (Till.mk' hS1 trivial) ?_
      rotate_left
      · rintro W ⟨hS1, hS2⟩; go_simp; all_goals with_reducible rfl
      try simp only [List.setIfInBounds_toArray, List.set_cons_succ, List.set_cons_zero]
      refine reg_take 1 57 7 #[true, true, false, false, false, false, false, false, false] (by rfl) (v := ?_) rfl rfl (by kernel_rfl) (by kernel_rfl) (by kernel_rfl) (by kernel_rfl) (fun _ _ _ h => h) (by rfl) ?_ (Till.mk' hS1 trivial) ?_
      rotate_left
      · rintro W ⟨hS1, hS2⟩; go_simp; all_goals with_reducible rfl
      try simp only [List.setIfInBounds_toArray, List.set_cons_succ, List.set_cons_zero]
      refine reg_take 2 58 6 #[true, true, true, false, false, false, false, false, false] (by rfl) (v := ?_) rfl rfl (by kernel_rfl) (by kernel_rfl) (by kernel_rfl) (by kernel_rfl) (fun _ _ _ h => h) (by rfl) ?_ (Till.mk' hS1 trivial) ?_
      rotate_left
      · rintro W ⟨hS1, hS2⟩; go_simp; all_goals with_reducible rfl
      try simp only [List.setIfInBounds_toArray, List.set_cons_succ, List.set_cons_zero]
      refine reg_take 3 59 5 #[true, true, true, true, false, false, false, false, false] (by rfl) (v := ?_) rfl rfl (by kernel_rfl) (by kernel_rfl) (by kernel_rfl) (by kernel_rfl) (fun _ _ _ h => h) (by rfl) ?_ (Till.mk' hS1 trivial) ?_
      rotate_left
      · rintro W ⟨hS1, hS2⟩; go_simp; all_goals with_reducible rfl
      try simp only [List.setIfInBounds_toArray, List.set_cons_succ, List.set_cons_zero]
      refine reg_take 4 60 4 #[true, true, true, true, true, false, false, false, false] (by rfl) (v := ?_) rfl rfl (by kernel_rfl) (by kernel_rfl) (by kernel_rfl) (by kernel_rfl) (fun _ _ _ h => h) (by rfl) ?_ (Till.mk' hS1 trivial) ?_
      rotate_left
      · rintro W ⟨hS1, hS2⟩; go_simp; all_goals with_reducible rfl
      try simp only [List.setIfInBounds_toArray, List.set_cons_succ, List.set_cons_zero]
      refine reg_take 5 61 3 #[true, true, true, true, true, true, false, false, false] (by rfl) (v := ?_) rfl rfl (by kernel_rfl) (by kernel_rfl) (by kernel_rfl) (by kernel_rfl) (fun _ _ _ h => h) (by rfl) ?_ (Till.mk' hS1 trivial) ?_
      rotate_left
      · rintro W ⟨hS1, hS2⟩; go_simp; all_goals with_reducible rfl
      try simp only [List.setIfInBounds_toArray, List.set_cons_succ, List.set_cons_zero]
      refine reg_take_y 6 62 2 #[true, true, true, true, true, true, true, false, false] (by rfl) rfl rfl (by kernel_rfl) (by kernel_rfl) (by kernel_rfl) (by kernel_rfl) (fun _ _ _ h => h) (yieldsIf_load_mid (by rfl) _ _ rfl P 1 (by rfl) (bvs pg) _ (fun W h => h.2) Try.underlying98 rfl hsz2) (Till.mk' hS1 trivial) ?_
      try simp only [List.setIfInBounds_toArray, List.set_cons_succ, List.set_cons_zero]
      refine reg_take 7 63 1 #[true, true, true, true, true, true, true, true, false] (by rfl) (v := ?_) rfl rfl (by kernel_rfl) (by kernel_rfl) (by kernel_rfl) (by kernel_rfl) (fun _ _ _ h => h) (by rfl) ?_ (Till.mk' hS1 trivial) ?_
      rotate_left
      · rintro W ⟨hS1, hS2⟩; go_simp; all_goals with_reducible rfl
      try simp only [List.setIfInBounds_toArray, List.set_cons_succ, List.set_cons_zero]
      refine reg_one 8 0 #[true, true, true, true, true, true, true, true, true] (by kernel_rfl) rfl (by rfl) (by kernel_rfl) (fun K hK => ?_)
      refine wp_store_mid _ _ _ (by rfl) D.n (n * 64) (bvs pg).toArray (by rfl) (by rfl) (by simpa [hbl2] using hth) (by simpa using hsz2) (all_oneCell_toArray (bvs_one _)) ?_
      have hS2 : (W8.drew.setCells D.n (n * 64) (bvs pg)).cell? ⟨D.g, 0, none⟩ = some (.slice (some ⟨D.n, 0, none⟩) p D.cn) ∧ (W8.drew.setCells D.n (n * 64) (bvs pg)).rangeAt P 1 (bvs pg) := ⟨by have := LY.is.head.cell 0; simpa only [RL.head, List.getElem?_cons_zero] using this, by
        have := bPl.range 1 64
        rwa [List.drop_succ_cons, List.drop_zero, List.take_of_length_le (by omega)] at this⟩
      refine hK _ _ (Till.mk' hS2 trivial) ?_
      clear hK K
      try simp only [List.setIfInBounds_toArray, List.set_cons_succ, List.set_cons_zero]
      refine reg_done (by kernel_rfl) ?_ _
      have R0 : RDid w B D p st Y D := ⟨D3, rfl, tx.mono (by simp), fun x hx => .inl hx⟩
      have R1 := R0.trans DD
      have R2 := R1.trans (⟨D8, rfl, (Turns.refl _ _).drew, fun x hx => .inl hx⟩ : RDid W8 B _ p _ W8.drew _)
      have R3 := R2.trans LY
      have hdd : st.dead = false := hd3
      have OP := Lib.hid (Rop_any _ B _ p _ LY.is hdd)
      have HR := Lib.hid R3
      generalize W8.drew.setCells D.n (n * 64) (bvs pg) = W9 at *
      obtain ⟨cd, hcd⟩ : ∃ c, c = decide (st.left = 1) := ⟨_, rfl⟩
      have OP' := Lib.hid (show Calls Try.prog 40 #[.pointer (some ⟨D.g, 0, none⟩)] W9 fun e w' => e = .returned (.bool cd) ∧ ∃ D', RDid w B D p (st.wrote n (pageOf bs)) w' D' from by
        rw [hcd]
        refine OP.out.mono fun e w' ho => ?_
        exact ⟨ho.1, _, by rw [← HPG.out]; exact HR.out.trans ho.2⟩)
      have hco : st.code = if cd = true then 15 else 0 := by
        rw [hcd]
        unfold DS.code
        by_cases h1 : st.left = 1
        · rw [if_pos h1, if_pos (decide_eq_true h1)]
        · rw [if_neg h1, if_neg (by rw [decide_eq_false h1]; decide)]
      have HCO := Lib.hid hco
      clear D3 own3 c2 c2' hsz hsz2 hS0 DD D8 LY c80 hS1 hnw hth bPl R0 R1 R2 R3 OP hcd hco bP bP8 hS2
      go_wp2_with fail
      refine OP'.out.mono ?_
      rintro e w9 ⟨rfl, hf⟩
      have HF := Lib.hid hf
      clear hf OP'
      cases cd
      · go_wp2_with fail
        go_ret
        exact ⟨by rw [HCO.out]; rfl, HF.out⟩
      · go_wp2_with fail
        go_ret
        exact ⟨by rw [HCO.out]; rfl, HF.out⟩
end Go.Proofs.Ytdhbaepmbgoobaa
namespace Go.Proofs.Ytdhbaepmbgoobaa
open Go.RowKit
set_option linter.unusedVariables false
set_option linter.unusedSimpArgs false
set_option linter.unnecessarySimpa false

set_option maxHeartbeats 4000000 in
theorem first_any (w : World) (B : Nat) (D : RL) (p : Nat) (st : DS) (h : RIs w B D p st) (hd : st.dead = false) :
    Calls Try.prog 49 #[.pointer (some ⟨D.g, 0, none⟩)] w fun e w' => e = .returned (.tuple #[.int .i64 st.size0, .int .i64 st.count0, .int .i64 0]) ∧ Turns [] w w' := by
  have hp := h.pages
  have RD := Lib.hid (RRead_any w B D p 0 st h (by omega) hd)
  have hpl : (pageAt st.now 0).length = 64 := pageAt_length st.now 0 p h.lenN (by omega)
  have h2 := ints_two (pageAt st.now 0) (by omega)
  obtain ⟨sz, hsz⟩ : ∃ x, x = st.size0 := ⟨_, rfl⟩
  obtain ⟨ct, hct⟩ : ∃ x, x = st.count0 := ⟨_, rfl⟩
  have e1 : (RS.readInt ⟨pageAt st.now 0, 0⟩).1 = sz := by rw [hsz]; exact h2.1
  have e2 : (RS.readInt (RS.readInt ⟨pageAt st.now 0, 0⟩).2).1 = ct := by rw [hct]; exact h2.2
  rw [← hsz, ← hct]
  have HE := Lib.hid (And.intro e1 e2)
  clear h hd h2 hsz hct e1 e2
  go_enter Try.func49, Try.ntmps49
  go_wp2_with fail
  refine RD.out.mono ?_
  rintro e x1 ⟨v1, rfl, o1, t1⟩
  have NW := XNew_any x1.heap.size v1 (pageAt st.now 0) x1 (by rw [hpl]; exact Sl.of_own o1) (Nat.le_refl _)
  replace NW := Lib.hid NW
  have T1 := Lib.hid t1
  clear t1 o1 RD hpl
  go_wp2_with fail
  refine NW.out.mono ?_
  rintro e x2 ⟨g, rfl, hg, R0, bel⟩
  have RI := XInt8_any _ g _ x2 R0
  rw [HE.out.1] at RI
  replace RI := Lib.hid RI
  have T2 := Lib.hid (T1.out.trans (Turns.of_below (L := []) bel) (by simp))
  have hgw : w.heap.size ≤ g := Nat.le_trans T1.out.size hg
  clear R0 bel NW hg
  go_wp2_with fail
  refine RI.out.mono ?_
  rintro e x3 ⟨rfl, dd⟩
  have RI2 := XInt8_any _ g _ x3 dd.is
  rw [HE.out.2] at RI2
  replace RI2 := Lib.hid RI2
  have T3 := Lib.hid (T2.out.trans (Turns.of_grown (L := [g]) dd.only (by intro k hk; injection hk with hk; simp [hk])) (by intro x hx; simp at hx; subst hx; exact .inr hgw))
  clear dd RI
  go_wp2_with fail
  refine RI2.out.mono ?_
  rintro e x4 ⟨rfl, dd⟩
  have T4 := Lib.hid (T3.out.trans (Turns.of_grown (L := [g]) dd.only (by intro k hk; injection hk with hk; simp [hk])) (by intro x hx; simp at hx; subst hx; exact .inr hgw))
  clear dd RI2
  go_wp2_with fail
  go_ret3
  exact ⟨rfl, T4.out⟩
theorem first_dead (w : World) (B : Nat) (D : RL) (p : Nat) (st : DS) (h : RIs w B D p st) (hd : st.dead = true) :
    Calls Try.prog 49 #[.pointer (some ⟨D.g, 0, none⟩)] w fun e w' => e = .returned (.tuple #[.int .i64 0, .int .i64 0, .int .i64 15]) ∧ w = w' := by
  have RD := RRead_bad w B D p 0 st h (by unfold DS.checked; rw [if_pos hd]; decide)
  have hc : st.checked p 0 0 = 15 := by unfold DS.checked; rw [if_pos hd]
  rw [hc] at RD
  replace RD := Lib.hid RD
  clear h hc
  go_enter Try.func49, Try.ntmps49
  go_wp2_with fail
  refine RD.out.mono ?_
  rintro e ww ⟨rfl, rfl⟩
  go_wp2_with fail
  go_ret3
  exact ⟨rfl, rfl⟩
def RoR (w : World) (st : DS) (p : Nat) (b i : Value) (wr : World) : Prop :=
  ∃ (k : Nat) (A : Option Addr) (c : Nat), 1 ≤ k ∧ k ≤ p ∧ i = .int .i64 k ∧ b = .slice A ((k - 1) * 64) c ∧ wr.ownsRow w.heap.size 5 1 (.slice A ((k - 1) * 64) c) ((k - 1) * 64) (bvs (st.body.take ((k - 1) * 64))) ∧ Turns [] w wr
set_option maxRecDepth 100000 in
set_option maxHeartbeats 4000000 in
theorem row_any (w : World) (B : Nat) (D : RL) (p n : Nat) (st : DS) (h : RIs w B D p st) (hd : st.dead = false) (hn : n ≤ st.body.length) :
    Calls Try.prog 64 #[.pointer (some ⟨D.g, 0, none⟩), .int .i64 n] w fun e w' => ∃ A c, e = .returned (.slice A n c) ∧ Sl w' w'.heap.size 1 (.slice A n c) n (bvs (st.body.take n)) ∧ Turns [] w w' := by
  have hp := h.pages
  have hlen := body_len st p h.lenN
  have hst := fun k => body_take st p k h.lenN
  have HD := Lib.hid (And.intro h (And.intro hd (And.intro hlen hst)))
  have hnp : n ≤ (p - 1) * 64 := by omega
  clear h hd hlen hst hn
  go_enter Try.func64, Try.ntmps64
  go_wp2_with fail
  go_loopw [5, 6] (fun b i wr => RoR w st p b i wr) (fun _ i _ => p - (intOf i).toNat)
  case atStart => exact ⟨1, none, 0, by omega, by omega, rfl, rfl, by simpa [bvs] using World.ownsRow_nil _ _ _ _, Turns.refl _ _⟩
  case round =>
    obtain ⟨k, A, c, hk1, hkp, rfl, rfl, o0, tx⟩ := hrel
    obtain ⟨Y, hY⟩ : ∃ Y, Y = wr := ⟨_, rfl⟩
    subst hY
    have dk := HD.out.1.turns tx (by simp)
    have c0 := dk.head.cell 0
    simp only [RL.head, List.getElem?_cons_zero] at c0
    obtain ⟨q, hq⟩ : ∃ q, q = (k - 1) * 64 := ⟨_, rfl⟩
    rw [← hq] at o0 ⊢
    have HQ := Lib.hid hq
    have hqb : q ≤ 300000 := by omega
    by_cases hlt : k < p ∧ q < n
    · obtain ⟨hl1, hl2⟩ := hlt
      have xk : (k : Int) < (p : Int) := by omega
      have xq : (q : Int) < (n : Int) := by omega
      have RD := Lib.hid (RRead_any Y B D p k st dk hl1 HD.out.2.1)
      have H1 := Lib.hid (And.intro o0 tx)
      clear o0 tx dk hq
      go_wp2_with fail
      refine RD.out.mono ?_
      rintro e y1 ⟨v1, rfl, o1, t1⟩
      have o0 := own_wL H1.out.1 t1 (by simp)
      have tg := H1.out.2.trans t1 (by simp)
      obtain ⟨A1, c1, rfl⟩ := own_formV o1
      obtain ⟨v2, y2, hr2, ap⟩ := run_append_rd (P := Try.prog) _ T8 34 o0 (Sl.of_own o1) (bvs_one _) (by simp only [maxLen]; omega) (by omega) tg.size
      have ebt := HD.out.2.2.2 k hl1 hk1
      have eo : y2.ownsRow w.heap.size 5 1 v2 (q + 64) (bvs (st.body.take (k * 64))) := by
        rw [ebt, bvs_append, ← HQ.out]; exact ap.own
      rw [show q + 64 = k * 64 by have := HQ.out; omega] at eo
      obtain ⟨A2, c2, rfl⟩ := own_formV eo
      have t2 : Turns (Value.slice A q c).ownBlock.toList y1 y2 := Turns.of_grown ap.grown (by intro x hx; exact .inl (by simpa using hx))
      have t3 := tg.trans t2 (by intro x hx; exact .inr (o0.lt x (by simpa using hx)).1)
      have HF := Lib.hid (And.intro eo t3)
      clear eo ebt t2 t3 ap o0 tg o1 t1 RD H1
      go_wp2_with (at_builtin; refine wpList_append_at rfl (.tmp 30) (.tmp 31) rfl hr2 rfl rfl ?_)
      go_roundw
      case rel => exact ⟨k + 1, A2, c2, by omega, by omega, by go_num, by rw [Nat.add_sub_cancel], by rw [Nat.add_sub_cancel]; exact HF.out.1, HF.out.2⟩
      case measure => (simp [intOf] <;> omega)
    · have hcc : q ≤ c ∧ c ≤ 9223372036854775807 := by
        obtain ⟨_, _, _, ee, h1, h2, _⟩ := Sl.of_own o0
        injection ee with _ _ e3
        subst e3
        unfold maxLen at h2
        omega
      have hnq : n ≤ q := by omega
      have hs := (Sl.of_own o0).to hnq
      have hbt : (bvs (st.body.take q)).take n = bvs (st.body.take n) := by rw [bvs_take, List.take_take, Nat.min_eq_left hnq]
      rw [hbt] at hs
      have HF := Lib.hid (And.intro hs tx)
      have rt := fun w => run_to A q c n hnq hcc.1 w
      have mm := Lib.hid (show (if (q : Int) < n then (q : Int) else (n : Int)) = n by rw [if_neg (by omega)])
      have xq : ¬ (q : Int) < (n : Int) := by omega
      have xq2 : (n : Int) ≤ (q : Int) := by omega
      clear hs tx hbt o0 dk hq
      by_cases hkl : k < p
      · have xk : (k : Int) < (p : Int) := by omega
        go_wp2_with fail
        go_ret
        exact ⟨A, c, rfl, HF.out.1, HF.out.2⟩
      · have xk : ¬ (k : Int) < (p : Int) := by omega
        go_wp2_with fail
        go_ret
        exact ⟨A, c, rfl, HF.out.1, HF.out.2⟩
theorem recs_slsF {w : World} {B0 : Nat} {v : Value} {ls : List (List UInt8)} (h : RecsOff w B0 v ls) : SlsF B0 w v ls.length ls := by
  obtain ⟨vs, h1, h2, h3⟩ := h.ex
  refine ⟨vs, rfl, Sl.of_own h2, fun b hb => (h2.lt b hb).1, fun j u hu => ?_⟩
  have hj : j < ls.length := by have := (List.getElem?_eq_some_iff.1 hu).1; omega
  obtain ⟨u', hu', hs, _, hb⟩ := h3 j hj
  rw [hu] at hu'
  injection hu' with hu'
  subst hu'
  exact ⟨ls[j], List.getElem?_eq_getElem hj, hs, fun b h => (hb b h).1⟩
end Go.Proofs.Ytdhbaepmbgoobaa
namespace Go.Proofs.Ytdhbaepmbgoobaa
open Go.RowKit
set_option linter.unusedVariables false
set_option linter.unusedSimpArgs false
set_option linter.unnecessarySimpa false

def RcR (w : World) (bs : List UInt8) (res : List (List UInt8) × List UInt8) (b out : Value) (wr : World) : Prop :=
  ∃ (pre : List (List UInt8)) (bc : List UInt8) (Ab : Option Addr) (cb : Nat) (Ao : Option Addr) (co : Nat), b = .slice Ab bc.length cb ∧ out = .slice Ao pre.length co ∧ Sl wr w.heap.size 1 (.slice Ab bc.length cb) bc.length (bvs bc) ∧ RecsOff wr w.heap.size (.slice Ao pre.length co) pre ∧
    res = (pre ++ (cutL bc.length bc).1, (cutL bc.length bc).2) ∧ bc.length ≤ bs.length ∧ pre.length + bc.length ≤ bs.length ∧ Turns [] w wr
theorem cutL_step (b : List UInt8) (h : recOk b = true) : cutL b.length b = (recOf b :: (cutL (recTail b).length (recTail b)).1, (cutL (recTail b).length (recTail b)).2) := by
  have htl := recTail_len b h
  obtain ⟨m, hm⟩ : ∃ m, b.length = m + 1 := ⟨b.length - 1, by omega⟩
  rw [hm, cutL, if_pos h, cutL_all m (recTail b).length (recTail b) (by omega) (by omega)]

set_option maxRecDepth 100000 in
set_option maxHeartbeats 8000000 in
theorem records_any (v : Value) (bs : List UInt8) (w : World) (hs : Sl w w.heap.size 1 v bs.length (bvs bs)) (hl : bs.length ≤ 8000000) :
    Calls Try.prog 63 #[v] w fun e w' => ∃ A n c, e = .returned (.tuple #[.slice A n c, .bool (decide ((cutL bs.length bs).2 = []))]) ∧ SlsF w.heap.size w' (.slice A n c) n (cutL bs.length bs).1 ∧ Turns [] w w' := by
  obtain ⟨A0, c0, rfl⟩ : ∃ A c, v = .slice A bs.length c := by obtain ⟨_, A, c, hv, _⟩ := hs; exact ⟨A, c, hv⟩
  obtain ⟨res, hres⟩ : ∃ r, r = cutL bs.length bs := ⟨_, rfl⟩
  rw [← hres]
  have HS := Lib.hid hs
  have HRES := Lib.hid hres
  clear hs hres
  go_enter Try.func63, Try.ntmps63
  go_wp2_with fail
  go_loopw [0, 4] (fun b out wr => RcR w bs res b out wr) (fun b _ _ => lenV b)
  case atStart => exact ⟨[], bs, A0, c0, none, 0, rfl, rfl, HS.out, RecsOff.nil, by simpa using HRES.out, Nat.le_refl _, by simp, Turns.refl _ _⟩
  case round =>
    obtain ⟨pre, bc, Ab, cb, Ao, co, rfl, rfl, hb, ho, hfin, hbl, hpb, tx⟩ := hrel
    have HB := Lib.hid (And.intro hb (And.intro ho (And.intro hfin tx)))
    have hcb : bc.length ≤ cb ∧ cb ≤ 9223372036854775807 := by
      obtain ⟨_, _, _, ee, h1, h2, _⟩ := hb
      injection ee with _ _ e3
      subst e3
      unfold maxLen at h2
      omega
    obtain ⟨Y, hY⟩ : ∃ Y, Y = wr := ⟨_, rfl⟩
    subst hY
    have END : ∀ (h : recOk bc = false), res = (pre, bc) := fun h => by rw [hfin, cutL_stop _ _ h]; simp
    have ENDH := Lib.hid END
    have hsz := tx.size
    clear hb ho hfin tx END
    by_cases hz : bc.length = 0
    · have hbn : bc = [] := List.eq_nil_of_length_eq_zero hz
      have hE := ENDH.out (by rw [hbn]; rfl)
      have HE := Lib.hid hE
      have HF := Lib.hid (And.intro (recs_slsF HB.out.2.1) HB.out.2.2.2)
      have HBN := Lib.hid hbn
      rw [hz]
      clear hbn hE hz
      go_wp2_with fail
      go_ret2
      rw [HE.out, HBN.out]
      exact ⟨Ao, pre.length, co, rfl, HF.out.1, HF.out.2⟩
    have hzI : (0 : Int) < bc.length := by omega
    by_cases h8 : 8 ≤ bc.length
    · have x8 : (8 : Int) ≤ bc.length := by omega
      have hs8 : Sl Y Y.heap.size 1 (.slice Ab 8 cb) (bc.take 8).length (bvs (bc.take 8)) := by
        have h := (HB.out.1.to h8).more hsz
        rw [bvs_take] at h
        rw [List.length_take, Nat.min_eq_left h8]
        exact h
      have NW := Lib.hid (XNew_any Y.heap.size _ (bc.take 8) Y hs8 (Nat.le_refl _))
      have r8 := run_to Ab bc.length cb 8 h8 hcb.1
      clear hs8 hz
      go_wp2_with fail
      refine NW.out.mono ?_
      rintro e y1 ⟨g, rfl, hg, R0, bel⟩
      have RI := XInt8_any _ g _ y1 R0
      have T1 := Lib.hid (Turns.of_below (L := []) bel)
      have hri : (RS.readInt ⟨bc.take 8, 0⟩).1 = recLen bc := by
        unfold RS.readInt RS.number
        rw [ok_take _ 8 rfl (by rw [List.length_take]; omega)]
        show leInt ((bc.take 8).take 8) = _
        rw [List.take_take]; rfl
      rw [hri] at RI
      replace RI := Lib.hid RI
      clear NW bel R0 hri r8
      go_wp2_with fail
      refine RI.out.mono ?_
      rintro e y2 ⟨rfl, dd⟩
      have t2 : Turns [] Y y2 := T1.out.trans (L' := [g]) (Turns.of_grown dd.only (by intro k hk; injection hk with hk; simp [hk])) (by intro x hx; simp at hx; exact .inr (by omega))
      have hlo := leInt_bd8 bc
      have hok := recOk_iff bc
      obtain ⟨n, hn⟩ : ∃ n, n = recLen bc := ⟨_, rfl⟩
      rw [← hn] at hlo hok ⊢
      have T2 := Lib.hid t2
      have HNN := Lib.hid hn
      clear dd t2 RI hn T1
      by_cases hbad : n < 0 ∨ (bc.length : Int) - 8 < n
      · have hE := ENDH.out (by cases h : recOk bc; rfl; exact absurd (hok.1 h) (by omega))
        have HE := Lib.hid hE
        have hne : decide (bc = []) = false := decide_eq_false (fun h => by rw [h] at h8; simp at h8)
        have HNE := Lib.hid hne
        have HF := Lib.hid (And.intro (recs_slsF (HB.out.2.1.on T2.out)) (HB.out.2.2.2.trans T2.out (by simp)))
        clear hok hE hne
        have h3 : n < 0 ∨ (¬ n < 0 ∧ (bc.length : Int) - 8 < n) := by omega
        clear hbad
        rcases h3 with h3 | ⟨h3, h4⟩
        all_goals
          go_wp2_with fail
          go_ret2
          rw [HE.out]
          refine ⟨Ao, pre.length, co, ?_, HF.out.1, HF.out.2⟩
          rw [HNE.out]; rfl
      · have hn0 : ¬ n < 0 := by omega
        have hn1 : ¬ (bc.length : Int) - 8 < n := by omega
        have hrk := hok.2 ⟨h8, by omega, by omega⟩
        obtain ⟨k, rfl⟩ : ∃ k : Nat, n = k := ⟨n.toNat, by omega⟩
        have hk8 : 8 + k ≤ bc.length := by omega
        have hof : recOf bc = (bc.drop 8).take k := by unfold recOf; rw [← HNN.out]; simp
        have hrt : recTail bc = bc.drop (8 + k) := by unfold recTail; rw [← HNN.out]; simp
        have hofl : (recOf bc).length = k := by rw [hof, List.length_take, List.length_drop]; omega
        have hmid0 : Sl Y w.heap.size 1 (.slice (adr Ab cb 8) k (cb - 8)) k (bvs (recOf bc)) := by
          have h1 := sl_off HB.out.1 h8
          have h2 := h1.to (show k ≤ bc.length - 8 by omega)
          rw [bvs_drop, bvs_take, ← hof] at h2
          exact h2
        have etl : bc.length - (8 + k) = (recTail bc).length := by rw [hrt, List.length_drop]
        have htl0 : Sl Y w.heap.size 1 (.slice (adr Ab cb (8 + k)) (recTail bc).length (cb - (8 + k))) (recTail bc).length (bvs (recTail bc)) := by
          have h1 := sl_off HB.out.1 hk8
          rw [bvs_drop, ← hrt, etl] at h1
          exact h1
        have hstep : (cutL bc.length bc) = (recOf bc :: (cutL (recTail bc).length (recTail bc)).1, (cutL (recTail bc).length (recTail bc)).2) := cutL_step bc hrk
        have htb := recTail_len bc hrk
        -- the empty row, and the record behind it
        obtain ⟨y2a, hy2a⟩ : ∃ y, y = y2.alloc (.cells #[] 5) := ⟨_, rfl⟩
        have ta : Turns [] y2 y2a := by rw [hy2a]; exact (Turns.refl _ _).alloc _
        have hown : y2a.ownsRow y2.heap.size 5 1 (.slice (some ⟨y2.heap.size, 0, none⟩) 0 0) 0 [] := by
          rw [hy2a]; exact World.ownsRow_made y2 #[] 0 (Nat.le_refl _) (Nat.zero_le _) (by simp)
        have hmid : Sl y2a y2a.heap.size 1 (.slice (adr Ab cb 8) k (cb - 8)) k (bvs (recOf bc)) := (ta.slice ((T2.out.slice hmid0 hsz (by simp)).more (Nat.le_trans hsz T2.out.size)) (Nat.le_refl _) (by simp)).more ta.size
        obtain ⟨v3, y3, hr3, ap⟩ := run_append_rd (P := Try.prog) _ T8 34 hown hmid (bvs_one _) (by simp only [maxLen]; omega) (by omega) ta.size
        have o3 : y3.ownsRow y2.heap.size 5 1 v3 (recOf bc).length (bvs (recOf bc)) := by
          have := ap.own
          rw [List.nil_append, Nat.zero_add] at this
          rw [hofl]; exact this
        have t3 : Turns [] y2 y3 := ta.trans (L' := [y2.heap.size]) (Turns.of_grown ap.grown (by intro x hx; simp [Value.ownBlock] at hx; simp [hx])) (by intro x hx; simp at hx; subst hx; exact .inr (Nat.le_refl _))
        have t03 := T2.out.trans t3 (by simp)
        obtain ⟨Ax3, cx3, rfl⟩ := own_formV o3
        obtain ⟨v4, y4, hr4, rec4, t4, b4⟩ := HB.out.2.1.push t03 hsz (by omega) (own_moreW o3 T2.out.size) 30
        obtain ⟨A4, c4, rfl⟩ : ∃ A c, v4 = .slice A (pre ++ [recOf bc]).length c := by
          obtain ⟨vs, _, h2, _⟩ := rec4.ex
          exact own_formV h2
        have htl := htl0.off t4 hsz b4
        have t05 := HB.out.2.2.2.trans t4 (by intro y hy; exact .inr (b4 y hy))
        have HF := Lib.hid (And.intro htl (And.intro rec4 (And.intro t05 (show res = ((pre ++ [recOf bc]) ++ (cutL (recTail bc).length (recTail bc)).1, (cutL (recTail bc).length (recTail bc)).2) by rw [HB.out.2.2.1, hstep]; simp))))
        have hk9 : (k : Int) ≤ 8000000 := by omega
        have rm : ∀ w, (Instr.sliceAt 34 (.slice Ab bc.length cb) (some (.int .i64 8)) (some (.int .i64 (8 + (k : Int)))) none).run Try.prog w = .ok (.slice (adr Ab cb 8) k (cb - 8)) w := fun w => run_mid Ab bc.length cb 8 k hk8 hcb.1 w
        have ro : ∀ w, (Instr.sliceAt 34 (.slice Ab bc.length cb) (some (.int .i64 (8 + (k : Int)))) none none).run Try.prog w = .ok (.slice (adr Ab cb (8 + k)) (bc.length - (8 + k)) (cb - (8 + k))) w := fun w => run_off Ab bc.length cb (8 + k) hk8 hcb.1 w
        rw [etl] at ro
        rw [hy2a] at hr3
        have HTB := Lib.hid (And.intro htb etl)
        clear htl rec4 t05 t4 b4 o3 t3 t03 ap hmid ta hown htl0 hmid0 hstep hrk hof hrt htb etl hofl hok
        go_wp2_with (first
          | (at_builtin; refine wpList_append_at rfl (.tmp 28) (.tmp 32) rfl hr3 rfl rfl ?_)
          | (at_builtin; refine wpList_append_at rfl (.tmp 27) (.tmp 34) rfl hr4 rfl rfl ?_))
        go_roundw
        case rel => exact ⟨pre ++ [recOf bc], recTail bc, _, _, A4, c4, rfl, by simp, HF.out.1, HF.out.2.1, HF.out.2.2.2, by have := HTB.out.1; omega, by have := HTB.out.1; simp; omega, HF.out.2.2.1⟩
        case measure => (have := HTB.out.1; simp [lenV]; omega)
    · have x8 : (bc.length : Int) < 8 := by omega
      have hE := ENDH.out (by cases h : recOk bc; rfl; exact absurd ((recOk_iff bc).1 h).1 h8)
      have HE := Lib.hid hE
      have hne : decide (bc = []) = false := decide_eq_false (fun h => by rw [h] at hz; simp at hz)
      have HNE := Lib.hid hne
      have HF := Lib.hid (And.intro (recs_slsF HB.out.2.1) HB.out.2.2.2)
      clear hE hne
      go_wp2_with fail
      go_ret2
      rw [HE.out]
      refine ⟨Ao, pre.length, co, ?_, HF.out.1, HF.out.2⟩
      rw [HNE.out]; rfl
end Go.Proofs.Ytdhbaepmbgoobaa
namespace Go.Proofs.Ytdhbaepmbgoobaa
open Go.RowKit
set_option linter.unusedVariables false
set_option linter.unusedSimpArgs false
set_option linter.unnecessarySimpa false

theorem cut_prefix : ∀ (c : Nat) (b : List UInt8), ((cutL b.length b).1.length ≤ c → cutL c b = cutL b.length b) ∧ (c < (cutL b.length b).1.length → (cutL c b).2 ≠ [])
  | 0, b => by
    by_cases h : recOk b = true
    · rw [cutL_step b h]
      have := (recOk_iff b).1 h
      refine ⟨fun h1 => (by simp at h1), fun _ hb => ?_⟩
      simp only [cutL] at hb
      rw [hb] at this
      simp at this
    · have h' : recOk b = false := by simpa using h
      rw [cutL_stop b.length b h']
      exact ⟨fun _ => rfl, fun h1 => by simp at h1⟩
  | c + 1, b => by
    by_cases h : recOk b = true
    · obtain ⟨i1, i2⟩ := cut_prefix c (recTail b)
      rw [cutL_step b h, cutL, if_pos h]
      refine ⟨fun h1 => ?_, fun h1 => ?_⟩
      · simp only [List.length_cons] at h1
        rw [i1 (by omega)]
      · simp only [List.length_cons] at h1
        exact i2 (by omega)
    · have h' : recOk b = false := by simpa using h
      rw [cutL_stop b.length b h', cutL_stop (c + 1) b h']
      exact ⟨fun _ => rfl, fun h1 => by simp at h1⟩
/-- The records as far as they lie whole. -/
def DS.scan (st : DS) : List (List UInt8) := (cutL st.body.length (st.body.take st.upto)).1
def DS.rest (st : DS) : List UInt8 := (cutL st.body.length (st.body.take st.upto)).2
theorem scan_same (st : DS) : (st.look.bad = false → st.look.recs = st.scan) ∧ st.look.bad = !(decide (st.rest = []) && (decide (0 ≤ st.size0) && (decide (st.size0 ≤ st.body.length) && decide (st.count0 = (st.scan.length : Int))))) := by
  unfold DS.scan DS.rest
  obtain ⟨T, hT⟩ : ∃ T, T = st.body.take st.upto := ⟨_, rfl⟩
  have hTl : T.length ≤ st.body.length := by rw [hT, List.length_take]; omega
  have hall : cutL st.body.length T = cutL T.length T := cutL_all _ _ _ (by omega) (by omega)
  rw [← hT, hall]
  by_cases h1 : st.size0 < 0 ∨ (st.body.length : Int) < st.size0
  · have e : st.look.bad = true := by
      unfold DS.look
      rw [if_pos (by rcases h1 with h | h; exact .inl h; exact .inr (.inr h))]
    rw [e]
    refine ⟨fun h => (by cases h), ?_⟩
    rcases h1 with h | h
    · rw [decide_eq_false (p := 0 ≤ st.size0) (by omega)]; simp
    · rw [decide_eq_false (p := st.size0 ≤ (st.body.length : Int)) (by omega)]; simp
  · rw [decide_eq_true (p := 0 ≤ st.size0) (by omega), decide_eq_true (p := st.size0 ≤ (st.body.length : Int)) (by omega)]
    have hup : st.upto = st.size0.toNat := by
      unfold DS.upto
      rw [if_neg (by omega), if_neg (by omega)]
    by_cases h2 : st.count0 < 0
    · have e : st.look.bad = true := by
        unfold DS.look
        rw [if_pos (.inr (.inl h2))]
      rw [e, decide_eq_false (p := st.count0 = _) (by omega)]
      exact ⟨fun h => (by cases h), by simp⟩
    · have e : st.look = ⟨st.size0, st.count0, (cutL st.count0.toNat T).1, !decide ((cutL st.count0.toNat T).2 = []) || ((cutL st.count0.toNat T).1.length : Int) != st.count0⟩ := by
        unfold DS.look
        rw [if_neg (by omega), ← hup, ← hT]
      rw [e]
      simp only
      obtain ⟨c1, c2⟩ := cut_prefix st.count0.toNat T
      by_cases h3 : (cutL T.length T).1.length ≤ st.count0.toNat
      · rw [c1 h3]
        refine ⟨fun _ => rfl, ?_⟩
        by_cases h4 : (cutL T.length T).2 = []
        · rw [decide_eq_true h4]
          by_cases h5 : st.count0 = ((cutL T.length T).1.length : Int)
          · rw [decide_eq_true h5, ← h5]; simp
          · rw [decide_eq_false h5]
            have : (((cutL T.length T).1.length : Int) != st.count0) = true := by simpa using fun h => h5 h.symm
            rw [this]; simp
        · rw [decide_eq_false h4]; simp
      · have h4 := c2 (by omega)
        rw [decide_eq_false h4, decide_eq_false (p := st.count0 = _) (by omega)]
        exact ⟨fun h => (by simp at h), by simp⟩

set_option maxRecDepth 100000 in
set_option maxHeartbeats 8000000 in
theorem RScan_any (w : World) (B : Nat) (D : RL) (p : Nat) (st : DS) (h : RIs w B D p st) (hd : st.dead = false) :
    Calls Try.prog 41 #[.pointer (some ⟨D.g, 0, none⟩)] w fun e w' => ∃ A n c, e = .returned (.tuple #[.slice A n c, .bool (!st.look.bad)]) ∧ SlsF w.heap.size w' (.slice A n c) n st.scan ∧ Turns [] w w' := by
  have hp := h.pages
  have FI := Lib.hid (first_any w B D p st h hd)
  have hbl := body_len st p h.lenN
  have hbad := (scan_same st).2
  have hbz := leInt_bd ((pageAt st.now 0).take 8)
  have hbc := leInt_bd (((pageAt st.now 0).drop 8).take 8)
  obtain ⟨z0, hz0⟩ : ∃ z, z = st.size0 := ⟨_, rfl⟩
  obtain ⟨ct, hct⟩ : ∃ z, z = st.count0 := ⟨_, rfl⟩
  have hbz' : -9223372036854775808 ≤ z0 ∧ z0 ≤ 9223372036854775807 := by rw [hz0]; exact hbz
  have hbc' : -9223372036854775808 ≤ ct ∧ ct ≤ 9223372036854775807 := by rw [hct]; exact hbc
  obtain ⟨bl, hbl2⟩ : ∃ bl, bl = st.body.length := ⟨_, rfl⟩
  obtain ⟨bd, hbd⟩ : ∃ b, b = st.look.bad := ⟨_, rfl⟩
  rw [← hz0, ← hct, ← hbl2, ← hbd] at hbad
  rw [← hz0, ← hct] at FI
  rw [← hbl2] at hbl
  rw [← hbd]
  obtain ⟨k, hk⟩ : ∃ k, k = st.upto := ⟨_, rfl⟩
  have h3 : (z0 < 0 ∧ k = 0) ∨ (0 ≤ z0 ∧ (bl : Int) < z0 ∧ k = bl) ∨ (0 ≤ z0 ∧ z0 ≤ bl ∧ z0 = k) := by
    unfold DS.upto at hk
    rw [← hz0, ← hbl2] at hk
    split at hk
    · exact .inl ⟨by assumption, hk⟩
    · split at hk
      · exact .inr (.inl ⟨by omega, by assumption, hk⟩)
      · exact .inr (.inr ⟨by omega, by omega, by omega⟩)
  have hkb : k ≤ st.body.length := by rw [← hbl2]; omega
  have RO := Lib.hid fun (W : World) (t : Turns [] w W) => row_any W B D p k st (h.turns t (by simp)) hd hkb
  have c0 := h.head.cell 0
  simp only [RL.head, List.getElem?_cons_zero] at c0
  have HBL := Lib.hid (And.intro hbl2 (And.intro hk hbl))
  have HBD := Lib.hid hbad
  have hb3 : bl ≤ 300000 := by omega
  have hrI : ((p : Int) - 1) * 64 = bl := by omega
  have HRI := Lib.hid hrI
  have hpb : (2 : Int) ≤ p ∧ (p : Int) ≤ 4096 := by omega
  clear h hd hz0 hct hbl2 hbd hbz hbc hbad hk hkb hbl hrI
  go_enter Try.func41, Try.ntmps41
  go_wp2_with fail
  refine FI.out.mono ?_
  rintro e x1 ⟨rfl, t1⟩
  have c1 := cellW t1 c0
  have RO1 := Lib.hid (RO.out x1 t1)
  have T1 := Lib.hid t1
  clear t1 FI RO
  go_upto_region 5 with fail
  rw [HRI.out]
  rcases h3 with ⟨h1, rfl⟩ | ⟨h1, h2, rfl⟩ | ⟨h1, h2, rfl⟩
  all_goals
    go_wp2_with fail
    refine RO1.out.mono ?_
    rintro e x2 ⟨A2, c2, rfl, s2, t2⟩
    have hkl : (st.body.take st.upto).length = st.upto := by rw [List.length_take, ← HBL.out.1, ← HBL.out.2.1]; omega
    have RC := records_any _ (st.body.take st.upto) x2 (by rw [hkl, ← HBL.out.2.1]; exact s2) (by rw [hkl, ← HBL.out.2.1]; omega)
    have hall : cutL (st.body.take st.upto).length (st.body.take st.upto) = cutL st.body.length (st.body.take st.upto) := cutL_all _ _ _ (by omega) (by rw [List.length_take]; omega)
    rw [hall] at RC
    rw [show (cutL st.body.length (st.body.take st.upto)).1 = st.scan from rfl, show (cutL st.body.length (st.body.take st.upto)).2 = st.rest from rfl] at RC
    have T2 := Lib.hid (T1.out.trans t2 (by simp))
    replace RC := Lib.hid RC
    clear s2 t2 hkl hall RO1
    go_wp2_with fail
    refine RC.out.mono ?_
    rintro e x3 ⟨A3, n3, c3, rfl, sl3, t3⟩
    have hn3 : st.scan.length = n3 := by obtain ⟨_, h, _⟩ := sl3; exact h
    have hbd := HBD.out
    rw [hn3] at hbd
    obtain ⟨zb, hzb⟩ : ∃ z, z = decide (st.rest = []) := ⟨_, rfl⟩
    rw [← hzb] at hbd ⊢
    have HF := Lib.hid (And.intro (sl3.mono T2.out.size) (T2.out.trans t3 (by simp)))
    have HB := Lib.hid hbd
    clear sl3 t3 hbd hn3 hzb RC
    cases zb
    · go_wp2_with fail
      go_ret2
      exact ⟨A3, n3, c3, by rw [HB.out]; rfl, HF.out.1, HF.out.2⟩
    · go_wp2_with fail
      go_ret2
      refine ⟨A3, n3, c3, ?_, HF.out.1, HF.out.2⟩
      rw [HB.out]
      simp
      first
        | done
        | (rw [decide_eq_true (show k ≤ bl by omega), Bool.true_and]; rfl)
        | (intro q1 q2; exfalso; omega)
theorem RScan_dead (w : World) (B : Nat) (D : RL) (p : Nat) (st : DS) (h : RIs w B D p st) (hd : st.dead = true) :
    Calls Try.prog 41 #[.pointer (some ⟨D.g, 0, none⟩)] w fun e w' => e = .returned (.tuple #[.slice none 0 0, .bool false]) ∧ w = w' := by
  have FI := Lib.hid (first_dead w B D p st h hd)
  clear h
  go_enter Try.func41, Try.ntmps41
  go_wp2_with fail
  refine FI.out.mono ?_
  rintro e ww ⟨rfl, rfl⟩
  go_wp2_with fail
  go_ret2
  exact ⟨rfl, rfl⟩
/-- The document's log's cells. -/
def XLG (g : Nat) (sz ct : Int) : List Value := [.pointer (some ⟨g, 0, none⟩), .int .i64 sz, .int .i64 ct]
theorem ROpen_dead (w : World) (B : Nat) (D : RL) (p : Nat) (st : DS) (h : RIs w B D p st) (hd : st.dead = true) :
    Calls Try.prog 26 #[.pointer (some ⟨D.g, 0, none⟩)] w fun e w' => e = .returned (.tuple #[.pointer none, .slice none 0 0, .int .i64 15]) ∧ w = w' := by
  have FI := Lib.hid (first_dead w B D p st h hd)
  clear h
  go_enter Try.func26, Try.ntmps26
  go_wp2_with fail
  refine FI.out.mono ?_
  rintro e ww ⟨rfl, rfl⟩
  go_wp2_with fail
  go_ret3
  exact ⟨rfl, rfl⟩
set_option maxRecDepth 100000 in
set_option maxHeartbeats 8000000 in
theorem ROpen_any (w : World) (B : Nat) (D : RL) (p : Nat) (st : DS) (h : RIs w B D p st) (hd : st.dead = false) :
    Calls Try.prog 26 #[.pointer (some ⟨D.g, 0, none⟩)] w fun e w' => Turns [] w w' ∧ (st.look.bad = true → e = .returned (.tuple #[.pointer none, .slice none 0 0, .int .i64 10])) ∧
      (st.look.bad = false → ∃ gl A n c, e = .returned (.tuple #[.pointer (some ⟨gl, 0, none⟩), .slice A n c, .int .i64 0]) ∧ Blk w' gl (XLG D.g st.size0 st.count0) 79 ∧ w.heap.size ≤ gl ∧ SlsF w.heap.size w' (.slice A n c) n st.scan) := by
  have FI := Lib.hid (first_any w B D p st h hd)
  have SC := Lib.hid fun (W : World) (t : Turns [] w W) => RScan_any W B D p st (h.turns t (by simp)) hd
  obtain ⟨sz, hsz⟩ : ∃ x, x = st.size0 := ⟨_, rfl⟩
  obtain ⟨ct, hct⟩ : ∃ x, x = st.count0 := ⟨_, rfl⟩
  obtain ⟨bd, hbd⟩ : ∃ x, x = st.look.bad := ⟨_, rfl⟩
  rw [← hsz, ← hct] at FI ⊢
  rw [← hbd] at SC ⊢
  clear h hd hsz hct hbd
  go_enter Try.func26, Try.ntmps26
  go_wp2_with fail
  refine FI.out.mono ?_
  rintro e x1 ⟨rfl, t1⟩
  have SC1 := Lib.hid (SC.out x1 t1)
  have T1 := Lib.hid t1
  clear t1 FI SC
  go_wp2_with fail
  refine SC1.out.mono ?_
  rintro e x2 ⟨A, n, c, rfl, sl, t2⟩
  have T2 := Lib.hid (T1.out.trans t2 (by simp))
  have HS := Lib.hid sl
  clear t2 sl SC1
  cases bd
  · obtain ⟨x3, hx3⟩ : ∃ x3, x3 = x2.alloc (.cells #[.pointer (some ⟨D.g, 0, none⟩), .int .i64 sz, .int .i64 ct] 79) := ⟨_, rfl⟩
    have bl := Blk.new x2 (XLG D.g sz ct) 79
    rw [show x2.alloc (.cells (XLG D.g sz ct).toArray 79) = x3 from hx3.symm] at bl
    have ta : Turns [] x2 x3 := by rw [hx3]; exact (Turns.refl _ _).alloc _
    have HF := Lib.hid (And.intro (T2.out.trans ta (by simp)) (And.intro bl ((HS.out.mono T1.out.size).on ta (by simp))))
    have HX := Lib.hid hx3
    clear hx3 bl ta
    go_wp2_with fail
    go_ret3
    rw [← HX.out]
    first
      | exact ⟨HF.out.1, _, A, n, c, rfl, HF.out.2.1, T2.out.size, HF.out.2.2⟩
      | exact ⟨HF.out.1, fun h => (by cases h), fun _ => ⟨_, A, n, c, rfl, HF.out.2.1, T2.out.size, HF.out.2.2⟩⟩
  · go_wp2_with fail
    go_ret3
    first
      | exact ⟨T2.out, rfl⟩
      | exact ⟨T2.out, fun _ => rfl, fun h => (by cases h)⟩
end Go.Proofs.Ytdhbaepmbgoobaa
namespace Go.Proofs.Ytdhbaepmbgoobaa
open Go.RowKit
set_option linter.unusedVariables false
set_option linter.unusedSimpArgs false
set_option linter.unnecessarySimpa false

/-- What a page reads as, whatever its number is. -/
def DS.readB (st : DS) (p : Nat) (z : Int) : List UInt8 := if st.checked p z 0 = 0 then pageAt st.now z.toNat else []
theorem readB_any (w : World) (B : Nat) (D : DL) (p : Nat) (z : Int) (st : DS) (h : DiskIs w B D p st) :
    Calls Try.prog 43 #[.pointer (some ⟨D.g, 0, none⟩), .int .i64 z] w fun e w' => ∃ v n, e = .returned (.tuple #[v, .int .i64 (st.checked p z 0)]) ∧ Sl w' w'.heap.size 1 v n (bvs (st.readB p z)) ∧ Turns [] w w' := by
  by_cases hc : st.checked p z 0 = 0
  · have hb : st.readB p z = pageAt st.now z.toNat := by unfold DS.readB; rw [if_pos hc]
    have hd : st.dead = false ∧ 0 ≤ z ∧ z < p := by
      unfold DS.checked at hc
      cases hd : st.dead
      · rw [hd, if_neg (by decide)] at hc
        by_cases h1 : z < 0 ∨ (p : Int) ≤ z ∨ (64 : Int) < 0
        · rw [if_pos h1] at hc; cases hc
        · exact ⟨rfl, by omega, by omega⟩
      · rw [hd, if_pos rfl] at hc; cases hc
    obtain ⟨n, rfl⟩ : ∃ n : Nat, z = n := ⟨z.toNat, by omega⟩
    refine (Read_any w B D p n st h (by omega) hd.1).mono fun e w' hq => ?_
    obtain ⟨v, he, ho, hbel⟩ := hq
    exact ⟨v, 64, by rw [hc]; exact he, by rw [hb, Int.toNat_natCast]; exact Sl.of_own ho, Turns.of_below (L := []) hbel⟩
  · refine (Read_bad w B D p z st h hc).mono fun e w' hq => ?_
    obtain ⟨he, rfl⟩ := hq
    exact ⟨.slice none 0 0, 0, he, by unfold DS.readB; rw [if_neg hc]; exact Sl.nil, Turns.refl _ _⟩
theorem rreadB_any (w : World) (B : Nat) (D : RL) (p : Nat) (z : Int) (st : DS) (h : RIs w B D p st) :
    Calls Try.prog 55 #[.pointer (some ⟨D.g, 0, none⟩), .int .i64 z] w fun e w' => ∃ v n, e = .returned (.tuple #[v, .int .i64 (st.checked p z 0)]) ∧ Sl w' w'.heap.size 1 v n (bvs (st.readB p z)) ∧ Turns [] w w' := by
  by_cases hc : st.checked p z 0 = 0
  · have hb : st.readB p z = pageAt st.now z.toNat := by unfold DS.readB; rw [if_pos hc]
    have hd : st.dead = false ∧ 0 ≤ z ∧ z < p := by
      unfold DS.checked at hc
      cases hd : st.dead
      · rw [hd, if_neg (by decide)] at hc
        by_cases h1 : z < 0 ∨ (p : Int) ≤ z ∨ (64 : Int) < 0
        · rw [if_pos h1] at hc; cases hc
        · exact ⟨rfl, by omega, by omega⟩
      · rw [hd, if_pos rfl] at hc; cases hc
    obtain ⟨n, rfl⟩ : ∃ n : Nat, z = n := ⟨z.toNat, by omega⟩
    refine (RRead_any w B D p n st h (by omega) hd.1).mono fun e w' hq => ?_
    obtain ⟨v, he, ho, ht⟩ := hq
    exact ⟨v, 64, by rw [hc]; exact he, by rw [hb, Int.toNat_natCast]; exact Sl.of_own ho, ht⟩
  · refine (RRead_bad w B D p z st h hc).mono fun e w' hq => ?_
    obtain ⟨he, rfl⟩ := hq
    exact ⟨.slice none 0 0, 0, he, by unfold DS.readB; rw [if_neg hc]; exact Sl.nil, Turns.refl _ _⟩
def SmR (w : World) (p : Nat) (i : Value) (wr : World) : Prop := ∃ k : Nat, k ≤ p + 2 ∧ i = .int .i64 ((k : Int) - 1) ∧ Turns [] w wr
set_option maxRecDepth 100000 in
set_option maxHeartbeats 8000000 in
theorem Same_any (w : World) (B Bx : Nat) (D : DL) (xd : RL) (p : Nat) (st : DS) (h : DiskIs w B D p st) (hx : RIs w Bx xd p st) :
    Calls Try.prog 42 #[.pointer (some ⟨D.g, 0, none⟩), .pointer (some ⟨xd.g, 0, none⟩)] w fun e w' => e = .returned (.bool true) ∧ Turns [] w w' := by
  have hp := h.pages
  have H0 := Lib.hid (And.intro h hx)
  clear h hx
  go_enter Try.func42, Try.ntmps42
  go_wp2_with fail
  go_loopw [5] (fun i wr => SmR w p i wr) (fun i _ => p + 5 - (intOf i + 1).toNat)
  case atStart => exact ⟨0, by omega, rfl, Turns.refl _ _⟩
  case round =>
    obtain ⟨k, hk, rfl, tx⟩ := hrel
    obtain ⟨Y, hY⟩ : ∃ Y, Y = wr := ⟨_, rfl⟩
    subst hY
    have dY := H0.out.1.turns tx (by simp)
    have xY := H0.out.2.turns tx (by simp)
    have c0 := xY.head.cell 0
    have c4 := xY.head.cell 4
    simp only [RL.head, List.getElem?_cons_zero, List.getElem?_cons_succ] at c0 c4
    obtain ⟨z, hz⟩ : ∃ z : Int, z = (k : Int) - 1 := ⟨_, rfl⟩
    rw [← hz]
    have hzb : -1 ≤ z ∧ z ≤ 5000 := by omega
    by_cases hlt : k < p + 2
    · have hlI : z ≤ (p : Int) := by omega
      have RD := Lib.hid (readB_any Y B D p z st dY)
      have RX := Lib.hid fun (W : World) (t : Turns [] Y W) => rreadB_any W Bx xd p z st (xY.turns t (by simp))
      have HZ := Lib.hid (And.intro hz tx)
      obtain ⟨rc, hrc⟩ : ∃ c, c = st.checked p z 0 := ⟨_, rfl⟩
      obtain ⟨T, hT⟩ : ∃ T, T = strOf (st.readB p z) := ⟨_, rfl⟩
      rw [← hrc] at RD
      have RX := Lib.hid (hrc ▸ RX.out)
      have HT := Lib.hid hT
      clear hz hrc hT tx dY xY c4
      go_wp2_with fail
      refine RD.out.mono ?_
      rintro e y1 ⟨v1, n1, rfl, s1, t1⟩
      have RX1 := Lib.hid (RX.out y1 t1)
      clear RD RX
      have S1 := Lib.hid s1
      have T1 := Lib.hid t1
      clear s1 t1
      go_wp2_with fail
      refine RX1.out.mono ?_
      rintro e y2 ⟨v2, n2, rfl, s2, t2⟩
      have hc1 := conv_str (P := Try.prog) (src := 34) (dst := 9) (e := 5) (t2.slice S1.out (Nat.le_refl _) (by simp)) Try.underlying34 Try.underlying5 Try.underlying9
      have hc2 := conv_str (P := Try.prog) (src := 34) (dst := 9) (e := 5) s2 Try.underlying34 Try.underlying5 Try.underlying9
      rw [← HT.out] at hc1 hc2
      have HF := Lib.hid ((HZ.out.2.trans T1.out (by simp)).trans t2 (by simp))
      clear s2 t2 RX1
      go_wp2_with fail
      go_roundw
      case rel => exact ⟨k + 1, by omega, by have := HZ.out.1; (congr 1; omega), HF.out⟩
      case measure => (have := HZ.out.1; simp [intOf]; omega)
    · have hlI : ¬ z ≤ (p : Int) := by omega
      have hlI2 : (p : Int) < z := by omega
      have PG := Lib.hid fun (W : World) (t : Turns [] w W) => Pages_any W B D p st (H0.out.1.turns t (by simp))
      have DE := Lib.hid fun (W : World) (t : Turns [] w W) => DiskDead_any W B D p st (H0.out.1.turns t (by simp))
      have S0 : Y.drew.cell? ⟨xd.g, 0, none⟩ = some (.slice (some ⟨xd.n, 0, none⟩) p xd.cn) ∧ Y.drew.cell? ⟨xd.g, 4, none⟩ = some (.bool st.dead) := ⟨c0, c4⟩
      have TY := Lib.hid tx.drew
      clear tx dY xY hz
      obtain ⟨dd, hdd⟩ : ∃ d, d = st.dead := ⟨_, rfl⟩
      rw [← hdd] at S0 c4
      have DE := Lib.hid (hdd ▸ DE.out)
      clear hdd
      go_upto_region 8 with fail
      refine reg_begin (fun W => W.cell? ⟨xd.g, 0, none⟩ = some (.slice (some ⟨xd.n, 0, none⟩) p xd.cn) ∧ W.cell? ⟨xd.g, 4, none⟩ = some (.bool dd)) (fun _ => True) 20 20 #[false, false, false, false, false, false, false, false, false, false, false, false, false, false, false, false, false, false, false, false] (by kernel_rfl) (by kernel_rfl) (by kernel_rfl) ?_
      refine reg_take 0 41 19 #[true, false, false, false, false, false, false, false, false, false, false, false, false, false, false, false, false, false, false, false] (by rfl) (v := ?_) rfl rfl (by kernel_rfl) (by kernel_rfl) (by kernel_rfl) (by kernel_rfl) (fun _ _ _ h => h) (by rfl) ?_ (Till.mk' S0 trivial) ?_
      rotate_left
      · rintro W ⟨hS1, hS2⟩; go_simp; all_goals with_reducible rfl
      try simp only [List.setIfInBounds_toArray, List.set_cons_succ, List.set_cons_zero]
      refine reg_take 2 43 18 #[true, false, true, false, false, false, false, false, false, false, false, false, false, false, false, false, false, false, false, false] (by rfl) (v := ?_) rfl rfl (by kernel_rfl) (by kernel_rfl) (by kernel_rfl) (by kernel_rfl) (fun _ _ _ h => h) (by rfl) ?_ (Till.mk' S0 trivial) ?_
      rotate_left
      · rintro W ⟨hS1, hS2⟩; go_simp; all_goals with_reducible rfl
      try simp only [List.setIfInBounds_toArray, List.set_cons_succ, List.set_cons_zero]
      refine reg_take 3 44 17 #[true, false, true, true, false, false, false, false, false, false, false, false, false, false, false, false, false, false, false, false] (by rfl) (v := ?_) rfl rfl (by kernel_rfl) (by kernel_rfl) (by kernel_rfl) (by kernel_rfl) (fun _ _ _ h => h) (by rfl) ?_ (Till.mk' S0 trivial) ?_
      rotate_left
      · rintro W ⟨hS1, hS2⟩; go_simp; all_goals with_reducible rfl
      try simp only [List.setIfInBounds_toArray, List.set_cons_succ, List.set_cons_zero]
      refine reg_take 4 45 16 #[true, false, true, true, true, false, false, false, false, false, false, false, false, false, false, false, false, false, false, false] (by rfl) (v := ?_) rfl rfl (by kernel_rfl) (by kernel_rfl) (by kernel_rfl) (by kernel_rfl) (fun _ _ _ h => h) (by rfl) ?_ (Till.mk' S0 trivial) ?_
      rotate_left
      · rintro W ⟨hS1, hS2⟩; go_simp; all_goals with_reducible rfl
      try simp only [List.setIfInBounds_toArray, List.set_cons_succ, List.set_cons_zero]
      refine reg_take 5 46 15 #[true, false, true, true, true, true, false, false, false, false, false, false, false, false, false, false, false, false, false, false] (by rfl) (v := ?_) rfl rfl (by kernel_rfl) (by kernel_rfl) (by kernel_rfl) (by kernel_rfl) (fun _ _ _ h => h) (by rfl) ?_ (Till.mk' S0 trivial) ?_
      rotate_left
      · rintro W ⟨hS1, hS2⟩; go_simp; all_goals with_reducible rfl
      try simp only [List.setIfInBounds_toArray, List.set_cons_succ, List.set_cons_zero]
      refine reg_take 6 47 14 #[true, false, true, true, true, true, true, false, false, false, false, false, false, false, false, false, false, false, false, false] (by rfl) (v := ?_) rfl rfl (by kernel_rfl) (by kernel_rfl) (by kernel_rfl) (by kernel_rfl) (fun _ _ _ h => h) (by rfl) ?_ (Till.mk' S0 trivial) ?_
      rotate_left
      · rintro W ⟨hS1, hS2⟩; go_simp; all_goals with_reducible rfl
      try simp only [List.setIfInBounds_toArray, List.set_cons_succ, List.set_cons_zero]
      refine reg_one 1 13 #[true, true, true, true, true, true, true, false, false, false, false, false, false, false, false, false, false, false, false, false] (by kernel_rfl) rfl (by rfl) (by kernel_rfl) (fun K hK => ?_)
      go_simp
      refine (PG.out _ TY.out).mono ?_
      rintro e ww ⟨rfl, rfl⟩
      refine hK _ _ (Till.mk' S0 trivial) ?_
      clear hK K
      try simp only [List.setIfInBounds_toArray, List.set_cons_succ, List.set_cons_zero]
      refine reg_take 7 48 12 #[true, true, true, true, true, true, true, true, false, false, false, false, false, false, false, false, false, false, false, false] (by rfl) (v := ?_) rfl rfl (by kernel_rfl) (by kernel_rfl) (by kernel_rfl) (by kernel_rfl) (fun _ _ _ h => h) (by rfl) ?_ (Till.mk' S0 trivial) ?_
      rotate_left
      · rintro W ⟨hS1, hS2⟩; go_simp; all_goals with_reducible rfl
      try simp only [List.setIfInBounds_toArray, List.set_cons_succ, List.set_cons_zero]
      refine reg_take 8 49 11 #[true, true, true, true, true, true, true, true, true, false, false, false, false, false, false, false, false, false, false, false] (by rfl) (v := ?_) rfl rfl (by kernel_rfl) (by kernel_rfl) (by kernel_rfl) (by kernel_rfl) (fun _ _ _ h => h) (by rfl) ?_ (Till.mk' S0 trivial) ?_
      rotate_left
      · rintro W ⟨hS1, hS2⟩; go_simp; all_goals with_reducible rfl
      try simp only [List.setIfInBounds_toArray, List.set_cons_succ, List.set_cons_zero]
      refine reg_take 9 50 10 #[true, true, true, true, true, true, true, true, true, true, false, false, false, false, false, false, false, false, false, false] (by rfl) (v := ?_) rfl rfl (by kernel_rfl) (by kernel_rfl) (by kernel_rfl) (by kernel_rfl) (fun _ _ _ h => h) (by rfl) ?_ (Till.mk' S0 trivial) ?_
      rotate_left
      · rintro W ⟨hS1, hS2⟩; go_simp; all_goals with_reducible rfl
      try simp only [List.setIfInBounds_toArray, List.set_cons_succ, List.set_cons_zero]
      refine reg_take 10 51 9 #[true, true, true, true, true, true, true, true, true, true, true, false, false, false, false, false, false, false, false, false] (by rfl) (v := ?_) rfl rfl (by kernel_rfl) (by kernel_rfl) (by kernel_rfl) (by kernel_rfl) (fun _ _ _ h => h) (by rfl) ?_ (Till.mk' S0 trivial) ?_
      rotate_left
      · rintro W ⟨hS1, hS2⟩; go_simp; all_goals with_reducible rfl
      try simp only [List.setIfInBounds_toArray, List.set_cons_succ, List.set_cons_zero]
      refine reg_take 11 52 8 #[true, true, true, true, true, true, true, true, true, true, true, true, false, false, false, false, false, false, false, false] (by rfl) (v := ?_) rfl rfl (by kernel_rfl) (by kernel_rfl) (by kernel_rfl) (by kernel_rfl) (fun _ _ _ h => h) (by rfl) ?_ (Till.mk' S0 trivial) ?_
      rotate_left
      · rintro W ⟨hS1, hS2⟩; go_simp; all_goals with_reducible rfl
      try simp only [List.setIfInBounds_toArray, List.set_cons_succ, List.set_cons_zero]
      refine reg_take 13 54 7 #[true, true, true, true, true, true, true, true, true, true, true, true, false, true, false, false, false, false, false, false] (by rfl) (v := ?_) rfl rfl (by kernel_rfl) (by kernel_rfl) (by kernel_rfl) (by kernel_rfl) (fun _ _ _ h => h) (by rfl) ?_ (Till.mk' S0 trivial) ?_
      rotate_left
      · rintro W ⟨hS1, hS2⟩; go_simp; all_goals with_reducible rfl
      try simp only [List.setIfInBounds_toArray, List.set_cons_succ, List.set_cons_zero]
      refine reg_take 14 55 6 #[true, true, true, true, true, true, true, true, true, true, true, true, false, true, true, false, false, false, false, false] (by rfl) (v := ?_) rfl rfl (by kernel_rfl) (by kernel_rfl) (by kernel_rfl) (by kernel_rfl) (fun _ _ _ h => h) (by rfl) ?_ (Till.mk' S0 trivial) ?_
      rotate_left
      · rintro W ⟨hS1, hS2⟩; go_simp; all_goals with_reducible rfl
      try simp only [List.setIfInBounds_toArray, List.set_cons_succ, List.set_cons_zero]
      refine reg_take 15 56 5 #[true, true, true, true, true, true, true, true, true, true, true, true, false, true, true, true, false, false, false, false] (by rfl) (v := ?_) rfl rfl (by kernel_rfl) (by kernel_rfl) (by kernel_rfl) (by kernel_rfl) (fun _ _ _ h => h) (by rfl) ?_ (Till.mk' S0 trivial) ?_
      rotate_left
      · rintro W ⟨hS1, hS2⟩; go_simp; all_goals with_reducible rfl
      try simp only [List.setIfInBounds_toArray, List.set_cons_succ, List.set_cons_zero]
      refine reg_take 16 57 4 #[true, true, true, true, true, true, true, true, true, true, true, true, false, true, true, true, true, false, false, false] (by rfl) (v := ?_) rfl rfl (by kernel_rfl) (by kernel_rfl) (by kernel_rfl) (by kernel_rfl) (fun _ _ _ h => h) (by rfl) ?_ (Till.mk' S0 trivial) ?_
      rotate_left
      · rintro W ⟨hS1, hS2⟩; go_simp; all_goals with_reducible rfl
      try simp only [List.setIfInBounds_toArray, List.set_cons_succ, List.set_cons_zero]
      refine reg_one 12 3 #[true, true, true, true, true, true, true, true, true, true, true, true, true, true, true, true, true, false, false, false] (by kernel_rfl) rfl (by rfl) (by kernel_rfl) (fun K hK => ?_)
      go_simp
      refine (DE.out _ TY.out).mono ?_
      rintro e ww ⟨rfl, rfl⟩
      refine hK _ _ (Till.mk' S0 trivial) ?_
      clear hK K
      try simp only [List.setIfInBounds_toArray, List.set_cons_succ, List.set_cons_zero]
      refine reg_take 17 58 2 #[true, true, true, true, true, true, true, true, true, true, true, true, true, true, true, true, true, true, false, false] (by rfl) (v := ?_) rfl rfl (by kernel_rfl) (by kernel_rfl) (by kernel_rfl) (by kernel_rfl) (fun _ _ _ h => h) (by rfl) ?_ (Till.mk' S0 trivial) ?_
      rotate_left
      · rintro W ⟨hS1, hS2⟩; go_simp; all_goals with_reducible rfl
      try simp only [List.setIfInBounds_toArray, List.set_cons_succ, List.set_cons_zero]
      refine reg_take 18 59 1 #[true, true, true, true, true, true, true, true, true, true, true, true, true, true, true, true, true, true, true, false] (by rfl) (v := ?_) rfl rfl (by kernel_rfl) (by kernel_rfl) (by kernel_rfl) (by kernel_rfl) (fun _ _ _ h => h) (by rfl) ?_ (Till.mk' S0 trivial) ?_
      rotate_left
      · rintro W ⟨hS1, hS2⟩; go_simp; all_goals with_reducible rfl
      try simp only [List.setIfInBounds_toArray, List.set_cons_succ, List.set_cons_zero]
      refine reg_take 19 4 0 #[true, true, true, true, true, true, true, true, true, true, true, true, true, true, true, true, true, true, true, true] (by rfl) (v := ?_) rfl rfl (by kernel_rfl) (by kernel_rfl) (by kernel_rfl) (by kernel_rfl) (fun _ _ _ h => h) (by rfl) ?_ (Till.mk' S0 trivial) ?_
      rotate_left
      · rintro W ⟨hS1, hS2⟩; go_simp; all_goals with_reducible rfl
      try simp only [List.setIfInBounds_toArray, List.set_cons_succ, List.set_cons_zero]
      refine reg_done (by kernel_rfl) ?_ _
      go_wp2_with fail
      go_ret
      exact ⟨by cases dd <;> rfl, TY.out⟩
end Go.Proofs.Ytdhbaepmbgoobaa
namespace Go.Proofs.Ytdhbaepmbgoobaa
open Go.RowKit
set_option linter.unusedVariables false
set_option linter.unusedSimpArgs false
set_option linter.unnecessarySimpa false

def DS.whole (st : DS) : Bool := !st.dead && !st.look.bad
def DS.scanR (st : DS) : List (List UInt8) := if st.dead = true then [] else st.scan
def DS.openC (st : DS) : Int := if st.dead = true then 15 else if st.look.bad = true then 10 else 0
def DS.openR (st : DS) : List (List UInt8) := if st.dead = true then [] else if st.look.bad = true then [] else st.scan
theorem open_dead (st : DS) (hd : st.dead = true) : st.openC = 15 ∧ st.openR = [] := by unfold DS.openC DS.openR; simp [hd]
theorem open_bad (st : DS) (hd : st.dead = false) (hb : st.look.bad = true) : st.openC = 10 ∧ st.openR = [] := by unfold DS.openC DS.openR; simp [hd, hb]
theorem open_ok (st : DS) (hd : st.dead = false) (hb : st.look.bad = false) : st.openC = 0 ∧ st.openR = st.scan := by unfold DS.openC DS.openR; simp [hd, hb]
/-- What is scanned, what is opened. -/
def ScU (w : World) (st : DS) (e : Ending) (w' : World) : Prop := ∃ A n c, e = .returned (.tuple #[.slice A n c, .bool st.whole]) ∧ SlsF w.heap.size w' (.slice A n c) n st.scanR ∧ Turns [] w w'
def OpU (w : World) (st : DS) (e : Ending) (w' : World) : Prop := ∃ pv A n c, e = .returned (.tuple #[pv, .slice A n c, .int .i64 st.openC]) ∧ SlsF w.heap.size w' (.slice A n c) n st.openR ∧ Turns [] w w'
theorem scanU (w : World) (B : Nat) (D : DL) (p : Nat) (st : DS) (h : DiskIs w B D p st) : Calls Try.prog 21 #[.pointer (some ⟨D.g, 0, none⟩)] w (ScU w st) := by
  refine (Scan_any w B D p st h).mono fun e w' ho => ?_
  unfold ScU DS.whole DS.scanR
  cases hd : st.dead
  · rw [if_neg (by decide)]
    cases hb : st.look.bad
    · obtain ⟨A, n, c, he, hs⟩ := ho.good hd hb
      rw [(scan_same st).1 hb] at hs
      exact ⟨A, n, c, he, hs, ho.turns⟩
    · obtain ⟨A, n, c, he, hs⟩ := ho.bad hd hb
      exact ⟨A, n, c, he, hs, ho.turns⟩
  · rw [if_pos rfl]
    exact ⟨none, 0, 0, ho.gone hd, SlsF.nil, ho.turns⟩
theorem rscanU (w : World) (B : Nat) (D : RL) (p : Nat) (st : DS) (h : RIs w B D p st) : Calls Try.prog 41 #[.pointer (some ⟨D.g, 0, none⟩)] w (ScU w st) := by
  unfold ScU DS.whole DS.scanR
  cases hd : st.dead
  · refine (RScan_any w B D p st h hd).mono fun e w' ho => ?_
    rw [if_neg (by decide)]
    obtain ⟨A, n, c, he, hs, ht⟩ := ho
    exact ⟨A, n, c, by rw [he]; rfl, hs, ht⟩
  · refine (RScan_dead w B D p st h hd).mono fun e w' ho => ?_
    rw [if_pos rfl]
    obtain ⟨he, rfl⟩ := ho
    exact ⟨none, 0, 0, he, SlsF.nil, Turns.refl _ _⟩
theorem openU (w : World) (B : Nat) (D : DL) (p : Nat) (st : DS) (h : DiskIs w B D p st) : Calls Try.prog 13 #[.pointer (some ⟨D.g, 0, none⟩)] w (OpU w st) := by
  refine (Open_any w B D p st h).mono fun e w' ho => ?_
  unfold OpU
  cases hd : st.dead
  · cases hb : st.look.bad
    · rw [(open_ok st hd hb).1, (open_ok st hd hb).2]
      obtain ⟨gl, A, n, c, he, _, _, hs⟩ := ho.good hd hb
      rw [(scan_same st).1 hb] at hs
      exact ⟨_, A, n, c, he, hs, ho.turns⟩
    · rw [(open_bad st hd hb).1, (open_bad st hd hb).2]
      exact ⟨_, none, 0, 0, ho.bad hd hb, SlsF.nil, ho.turns⟩
  · rw [(open_dead st hd).1, (open_dead st hd).2]
    exact ⟨_, none, 0, 0, ho.gone hd, SlsF.nil, ho.turns⟩
theorem ropenU (w : World) (B : Nat) (D : RL) (p : Nat) (st : DS) (h : RIs w B D p st) : Calls Try.prog 26 #[.pointer (some ⟨D.g, 0, none⟩)] w (OpU w st) := by
  unfold OpU
  cases hd : st.dead
  · refine (ROpen_any w B D p st h hd).mono fun e w' ho => ?_
    obtain ⟨ht, h1, h2⟩ := ho
    cases hb : st.look.bad
    · rw [(open_ok st hd hb).1, (open_ok st hd hb).2]
      obtain ⟨gl, A, n, c, he, _, _, hs⟩ := h2 hb
      exact ⟨_, A, n, c, he, hs, ht⟩
    · rw [(open_bad st hd hb).1, (open_bad st hd hb).2]
      exact ⟨_, none, 0, 0, h1 hb, SlsF.nil, ht⟩
  · refine (ROpen_dead w B D p st h hd).mono fun e w' ho => ?_
    rw [(open_dead st hd).1, (open_dead st hd).2]
    obtain ⟨he, rfl⟩ := ho
    exact ⟨_, none, 0, 0, he, SlsF.nil, Turns.refl _ _⟩

set_option maxRecDepth 100000 in
set_option maxHeartbeats 8000000 in
theorem same_any (w : World) (B Bx : Nat) (D : DL) (xd : RL) (p : Nat) (st : DS) (h : DiskIs w B D p st) (hx : RIs w Bx xd p st) :
    Calls Try.prog 19 #[.pointer (some ⟨D.g, 0, none⟩), .pointer (some ⟨xd.g, 0, none⟩)] w fun e w' => e = .returned (.bool true) ∧ Turns [] w w' := by
  have SC := Lib.hid (scanU w B D p st h)
  have H0 := Lib.hid (And.intro h hx)
  clear h hx
  go_enter Try.func19, Try.ntmps19
  go_wp2_with fail
  refine SC.out.mono ?_
  rintro e w1 ⟨A1, n1, c1, rfl, s1, t1⟩
  have RS1 := Lib.hid (rscanU w1 Bx xd p st (H0.out.2.turns t1 (by simp)))
  have H1 := Lib.hid (And.intro s1 t1)
  clear s1 t1 SC
  go_wp2_with fail
  refine RS1.out.mono ?_
  rintro e w2 ⟨A2, n2, c2, rfl, s2, t2⟩
  have t02 := H1.out.2.trans t2 (by simp)
  have OP := Lib.hid (openU w2 B D p st (H0.out.1.turns t02 (by simp)))
  have H2 := Lib.hid (And.intro (H1.out.1.on t2 (by simp)) (And.intro s2 t02))
  clear s2 t2 t02 RS1
  go_wp2_with fail
  refine OP.out.mono ?_
  rintro e w3 ⟨pv3, A3, n3, c3, rfl, s3, t3⟩
  have t03 := H2.out.2.2.trans t3 (by simp)
  have RO := Lib.hid (ropenU w3 Bx xd p st (H0.out.2.turns t03 (by simp)))
  have H3 := Lib.hid (And.intro (H2.out.1.on t3 (by simp)) (And.intro (H2.out.2.1.on t3 (by simp)) (And.intro s3 t03)))
  clear s3 t3 t03 OP
  go_wp2_with fail
  refine RO.out.mono ?_
  rintro e w4 ⟨pv4, A4, n4, c4, rfl, s4, t4⟩
  have t04 := H3.out.2.2.2.trans t4 (by simp)
  have SM := Lib.hid (Same_any w4 B Bx D xd p st (H0.out.1.turns t04 (by simp)) (H0.out.2.turns t04 (by simp)))
  have H4 := Lib.hid (And.intro (H3.out.1.on t4 (by simp)) (And.intro (H3.out.2.1.on t4 (by simp)) (And.intro (H3.out.2.2.1.on t4 (by simp)) (And.intro s4 t04))))
  clear s4 t4 t04 RO
  obtain ⟨wh, hwh⟩ : ∃ b, b = st.whole := ⟨_, rfl⟩
  obtain ⟨oc, hoc⟩ : ∃ b, b = st.openC := ⟨_, rfl⟩
  rw [← hwh, ← hoc]
  clear hwh hoc
  go_wp2_with fail
  refine SM.out.mono ?_
  rintro e w5 ⟨rfl, t5⟩
  have RW := rows_any w5 _ _ _ _ _ _ (H4.out.1.on t5 (by simp)).sls (H4.out.2.1.on t5 (by simp)).sls
  rw [decide_eq_true rfl] at RW
  replace RW := Lib.hid RW
  have H5 := Lib.hid (And.intro (H4.out.2.2.1.on t5 (by simp)) (And.intro (H4.out.2.2.2.1.on t5 (by simp)) (H4.out.2.2.2.2.trans t5 (by simp))))
  clear t5 SM
  go_wp2_with fail
  refine RW.out.mono ?_
  rintro e w6 ⟨rfl, t6⟩
  have RW2 := rows_any w6 _ _ _ _ _ _ (H5.out.1.on t6 (by simp)).sls (H5.out.2.1.on t6 (by simp)).sls
  rw [decide_eq_true rfl] at RW2
  replace RW2 := Lib.hid RW2
  have H6 := Lib.hid (H5.out.2.2.trans t6 (by simp))
  clear t6 RW
  go_wp2_with fail
  refine RW2.out.mono ?_
  rintro e w7 ⟨rfl, t7⟩
  have H7 := Lib.hid (H6.out.trans t7 (by simp))
  clear t7 RW2
  go_wp2_with fail
  go_ret
  exact ⟨rfl, H7.out⟩
end Go.Proofs.Ytdhbaepmbgoobaa
namespace Go.Proofs.Ytdhbaepmbgoobaa
open Go.RowKit
set_option linter.unusedVariables false
set_option linter.unusedSimpArgs false
set_option linter.unnecessarySimpa false

structure TwoD (w0 w : World) (D : DL) (xd : RL) (B Bx p : Nat) (st sx : DS) (X : List Nat) : Prop where
  d : DiskIs w B D p st
  x : RIs w Bx xd p sx
  ap : ∀ y ∈ D.all, y ∉ xd.all
  lowB : w0.heap.size ≤ B
  lowX : w0.heap.size ≤ Bx
  bel : Below w0.heap.size w0 w
  kept : ∀ y ∈ X, y ∉ D.all ∧ y ∉ xd.all ∧ w0.heap.size ≤ y ∧ y < w.heap.size
def Two (w0 w : World) (g xg p : Nat) (st sx : DS) (X : List Nat) : Prop := ∃ (D : DL) (xd : RL) (B Bx : Nat), D.g = g ∧ xd.g = xg ∧ TwoD w0 w D xd B Bx p st sx X
section
variable {w0 w w' : World} {g xg p : Nat} {st sx st' : DS} {X : List Nat}
theorem Two.bel (h : Two w0 w g xg p st sx X) : Below w0.heap.size w0 w := by obtain ⟨D, xd, B, Bx, _, _, h⟩ := h; exact h.bel
theorem Two.pages (h : Two w0 w g xg p st sx X) : 2 ≤ p ∧ p ≤ 4096 := by obtain ⟨D, xd, B, Bx, _, _, h⟩ := h; exact h.d.pages
theorem Two.turn {L : List Nat} (h : Two w0 w g xg p st sx X) (t : Turns L w w') (hL : ∀ y ∈ L, y ∈ X) : Two w0 w' g xg p st sx X := by
  obtain ⟨D, xd, B, Bx, rfl, rfl, h⟩ := h
  exact ⟨D, xd, B, Bx, rfl, rfl, h.d.turns t (fun y hy => (h.kept y (hL y hy)).1), h.x.turns t (fun y hy => (h.kept y (hL y hy)).2.1), h.ap, h.lowB, h.lowX, h.bel.trans (t.below h.bel.size (fun y hy => (h.kept y (hL y hy)).2.2.1)), fun y hy => ⟨(h.kept y hy).1, (h.kept y hy).2.1, (h.kept y hy).2.2.1, Nat.lt_of_lt_of_le (h.kept y hy).2.2.2 t.size⟩⟩
theorem Two.more (h : Two w0 w g xg p st sx X) (t : Turns [] w w') {y : Nat} (h1 : w.heap.size ≤ y) (h2 : y < w'.heap.size) : Two w0 w' g xg p st sx (y :: X) := by
  have k := h.turn t (by simp)
  obtain ⟨D, xd, B, Bx, rfl, rfl, h⟩ := h
  have hd := h.d.turns t (by simp)
  have hx := h.x.turns t (by simp)
  refine ⟨D, xd, B, Bx, rfl, rfl, hd, hx, h.ap, h.lowB, h.lowX, k.bel, fun z hz => ?_⟩
  rcases List.mem_cons.1 hz with rfl | hz
  · exact ⟨fun hm => by have := h.d.lt _ hm; omega, fun hm => by have := h.x.lt _ hm; omega, Nat.le_trans h.bel.size h1, h2⟩
  · exact ⟨(h.kept z hz).1, (h.kept z hz).2.1, (h.kept z hz).2.2.1, Nat.lt_of_lt_of_le (h.kept z hz).2.2.2 t.size⟩
theorem Two.sub (h : Two w0 w g xg p st sx X) {Y : List Nat} (hY : ∀ y ∈ Y, y ∈ X) : Two w0 w g xg p st sx Y := by
  obtain ⟨D, xd, B, Bx, rfl, rfl, h⟩ := h
  exact ⟨D, xd, B, Bx, rfl, rfl, h.d, h.x, h.ap, h.lowB, h.lowX, h.bel, fun y hy => h.kept y (hY y hy)⟩
theorem Two.same (h : Two w0 w g xg p st sx X) (t : Turns [] w w') : Same X w w' := by
  obtain ⟨D, xd, B, Bx, rfl, rfl, h⟩ := h
  exact fun y hy => t.block y (h.kept y hy).2.2.2 (by simp)
theorem TwoD.code {D D' : DL} {xd : RL} {B Bx : Nat} (h : TwoD w0 w D xd B Bx p st sx X) (k : DiskDid w B D p st' w' D') : Two w0 w' D.g xd.g p st' sx X ∧ Same X w w' := by
  refine ⟨⟨D', xd, B, Bx, k.same.1, rfl, k.is, h.x.turns k.turns (fun y hy => h.ap y hy), fun y hy hm => ?_, h.lowB, h.lowX, h.bel.trans (k.turns.below h.bel.size (fun y hy => Nat.le_trans h.lowB (h.d.lowAll y hy))), fun y hy => ⟨fun hm => ?_, (h.kept y hy).2.1, (h.kept y hy).2.2.1, Nat.lt_of_lt_of_le (h.kept y hy).2.2.2 k.turns.size⟩⟩, fun y hy => k.turns.block y (h.kept y hy).2.2.2 (h.kept y hy).1⟩
  · rcases k.fresh y hy with h1 | h1
    · exact h.ap y h1 hm
    · have := h.x.lt y hm; omega
  · rcases k.fresh y hm with h1 | h1
    · exact (h.kept y hy).1 h1
    · have := (h.kept y hy).2.2.2; omega
theorem TwoD.ref {D : DL} {xd xd' : RL} {B Bx : Nat} (h : TwoD w0 w D xd B Bx p st sx X) (k : RDid w Bx xd p st' w' xd') : Two w0 w' D.g xd.g p st st' X ∧ Same X w w' := by
  refine ⟨⟨D, xd', B, Bx, rfl, k.same, h.d.turns k.turns (fun y hy hm => h.ap y hm hy), k.is, fun y hy hm => ?_, h.lowB, h.lowX, h.bel.trans (k.turns.below h.bel.size (fun y hy => Nat.le_trans h.lowX (h.x.lowAll y hy))), fun y hy => ⟨(h.kept y hy).1, fun hm => ?_, (h.kept y hy).2.2.1, Nat.lt_of_lt_of_le (h.kept y hy).2.2.2 k.turns.size⟩⟩, fun y hy => k.turns.block y (h.kept y hy).2.2.2 (h.kept y hy).2.1⟩
  · rcases k.fresh y hm with h1 | h1
    · exact h.ap y hy h1
    · have := h.d.lt y hy; omega
  · rcases k.fresh y hm with h1 | h1
    · exact (h.kept y hy).2.1 h1
    · have := (h.kept y hy).2.2.2; omega
/-- What an operation of the one, of the other leaves. -/
def CDone (w0 w : World) (g xg p : Nat) (st sx : DS) (X : List Nat) (c : Int) (e : Ending) (w' : World) : Prop := e = .returned (.int .i64 c) ∧ Two w0 w' g xg p st sx X ∧ Same X w w'
theorem TWrite (h : Two w0 w g xg p st sx X) (n : Nat) (v : Value) (l : Nat) (bs : List UInt8) (hb : Sl w w.heap.size 1 v l (bvs bs)) (hn : n < p) (hl : bs.length ≤ 64) (hd : st.dead = false) (hwl : st.writes.length ≤ 1000000) :
    Calls Try.prog 17 #[.pointer (some ⟨g, 0, none⟩), .int .i64 n, v] w (CDone w0 w g xg p (st.wrote n (pageOf bs)) sx X st.code) := by
  obtain ⟨D, xd, B, Bx, rfl, rfl, h⟩ := h
  refine (Write_any w B D p n st v l bs h.d hb hn hl hd hwl).mono fun e w' hq => ?_
  obtain ⟨D', he, hk⟩ := hq
  exact ⟨he, h.code hk⟩
theorem TRWrite (h : Two w0 w g xg p st sx X) (n : Nat) (A : Option Addr) (c : Nat) (bs : List UInt8) (hb : Sl w w.heap.size 1 (.slice A bs.length c) bs.length (bvs bs)) (hn : n < p) (hl : bs.length ≤ 64) (hd : sx.dead = false) (hwl : sx.writes.length ≤ 1000000) :
    Calls Try.prog 18 #[.pointer (some ⟨xg, 0, none⟩), .int .i64 n, .slice A bs.length c] w (CDone w0 w g xg p st (sx.wrote n (pageOf bs)) X sx.code) := by
  obtain ⟨D, xd, B, Bx, rfl, rfl, h⟩ := h
  refine (RWrite_any w Bx xd p n sx A c bs h.x hb hn hl hd hwl).mono fun e w' hq => ?_
  obtain ⟨he, D', hk⟩ := hq
  exact ⟨he, h.ref hk⟩
theorem Tsame (h : Two w0 w g xg p st st X) :
    Calls Try.prog 19 #[.pointer (some ⟨g, 0, none⟩), .pointer (some ⟨xg, 0, none⟩)] w fun e w' => e = .returned (.bool true) ∧ Turns [] w w' := by
  obtain ⟨D, xd, B, Bx, rfl, rfl, h⟩ := h
  exact same_any w B Bx D xd p st h.d h.x
theorem TNew {B : Nat} (a : At w0 w B g p (fresh p) []) :
    Calls Try.prog 16 #[.int .i64 p] w fun e w' => ∃ xg, e = .returned (.tuple #[.pointer (some ⟨xg, 0, none⟩), .int .i64 0]) ∧ Two w0 w' g xg p (fresh p) (fresh p) [] := by
  obtain ⟨D, rfl, hd, _⟩ := a.ex
  refine (RNew_any p hd.pages.1 hd.pages.2 w).mono fun e w' hq => ?_
  obtain ⟨xd, he, hx, t⟩ := hq
  refine ⟨xd.g, he, D, xd, B, w.heap.size, rfl, rfl, hd.turns t (by simp), hx, fun y hy hm => ?_, a.low, a.bel.size, (a.turn t (by simp)).bel, by simp⟩
  have h1 := hd.lt y hy
  have h2 := hx.lowAll y hm
  omega
end
end Go.Proofs.Ytdhbaepmbgoobaa
