/- A Write is laid behind the others. -/
import Derived.Test.YtdhbaepmbgoobaaDiskN
namespace Go.Proofs.Ytdhbaepmbgoobaa
open Go.RowKit
set_option linter.unusedVariables false
set_option maxRecDepth 10000
set_option linter.unusedSimpArgs false
set_option linter.unnecessarySimpa false

theorem flatW_snoc (ws : List (Nat × List UInt8)) (n : Nat) (pg : List UInt8) : flatW (ws ++ [(n, pg)]) = flatW ws ++ (Value.int .i64 n :: bvs pg) := by
  simp only [flatW, List.flatMap_append, List.flatMap_cons, List.flatMap_nil, List.append_nil]

/-- Where a block that is none of the disk's stands before the append it stands behind it. -/
theorem apd_blk {B : Nat} {W W7 : World} {D : DL} {v7 : Value} {k m : Nat} {xs ys : List Value} (ap : Apd B 101 65 W D.v k xs W7 v7 m ys) {g : Nat} {cs : List Value} {t : TypeId} (h : Blk W g cs t) (hg : D.v.ownBlock ≠ some g) : Blk W7 g cs t := by
  unfold Blk
  rw [ap.grown.block g h.lt (fun e => hg e.symm)]
  exact h

theorem writes_did {B p n : Nat} {W3 W7 : World} {D : DL} {st : DS} {v7 : Value} {o : Obj} {pg : List UInt8} (D3 : DiskIs W3 B D p st)
    (ap : Apd B 101 65 (W3.drew.alloc o) D.v st.writes.length (flatW st.writes) W7 v7 (st.writes.length + 1) (flatW st.writes ++ (Value.int .i64 n :: bvs pg))) :
    DiskDid W3 B D p ⟨st.left, st.dead, st.synced, st.now, st.writes ++ [(n, pg)]⟩ (W7.setCell ⟨D.g, 4, none⟩ v7) ⟨D.g, D.s, D.m, v7⟩ := by
  have hsz : (W3.drew.alloc o).heap.size = W3.heap.size + 1 := by simp
  have l1 := D3.head.lt
  have l2 := D3.syn.lt
  have l3 := D3.now.lt
  have hv7 : v7.ownBlock ≠ some D.g ∧ v7.ownBlock ≠ some D.s ∧ v7.ownBlock ≠ some D.m := by
    rcases ap.lies with e | ⟨g, e, hg⟩
    · rw [e]; exact D3.ap2
    · rw [e, hsz] at *
      exact ⟨by intro h; injection h with h; omega, by intro h; injection h with h; omega, by intro h; injection h with h; omega⟩
  have b1 := apd_blk ap (D3.head.drew.alloc o) D3.ap2.1
  have b2 := apd_blk ap (D3.syn.drew.alloc o) D3.ap2.2.1
  have b3 := apd_blk ap (D3.now.drew.alloc o) D3.ap2.2.2
  have hin : ∀ k, D.v.ownBlock = some k → k ∈ D.all := by intro k hk; simp [DL.all, hk]
  have t7 : Turns D.all W3 W7 := ((Turns.refl D.all W3).drew.alloc o).trans (Turns.of_grown (L := D.all) ap.grown (fun k hk => .inl (hin k hk))) (fun x hx => .inl hx)
  refine ⟨⟨?_, b2.other (p := ⟨D.g, 4, none⟩) D3.ap1.1 v7, b3.other (p := ⟨D.g, 4, none⟩) D3.ap1.2.1 v7, ?_, D3.lenS, D3.lenN, D3.left0, D3.pages, D3.ap1, hv7, D3.low⟩, ⟨rfl, rfl, rfl⟩, t7.setCell (p := ⟨D.g, 4, none⟩) (.inl (by simp [DL.all])) v7, ?_⟩
  · exact b1.set 4 v7
  · have := ap.own
    rw [← flatW_snoc] at this
    have hw : (st.writes ++ [(n, pg)]).length = st.writes.length + 1 := by simp
    show World.ownsRow _ B 101 65 v7 (st.writes ++ [(n, pg)]).length _
    rw [hw]
    obtain ⟨h1, h2⟩ := this
    refine ⟨h1, ?_⟩
    rcases h2 with h2 | ⟨g, cap, cur, hv, hg, hh, r⟩
    · exact Or.inl h2
    · refine Or.inr ⟨g, cap, cur, hv, hg, ?_, r⟩
      rw [Below.heap_setCell _ _ _ _ (fun e => hv7.1 (by rw [hv]; exact congrArg some e))]
      exact hh
  · intro x hx
    simp only [DL.all, List.mem_cons] at hx ⊢
    rcases hx with h | h | h | h
    · exact .inl (.inl h)
    · exact .inl (.inr (.inl h))
    · exact .inl (.inr (.inr (.inl h)))
    · rcases ap.lies with e | ⟨g, e, hg⟩
      · rw [e] at h; exact .inl (.inr (.inr (.inr h)))
      · rw [e] at h
        simp at h
        subst h
        rw [hsz] at hg
        exact .inr (by omega)

theorem DiskDid.trans {w w1 w2 : World} {B p : Nat} {D D1 D2 : DL} {st st' : DS} (h : DiskDid w B D p st w1 D1) (k : DiskDid w1 B D1 p st' w2 D2) : DiskDid w B D p st' w2 D2 :=
  ⟨k.is, ⟨k.same.1.trans h.same.1, k.same.2.1.trans h.same.2.1, k.same.2.2.trans h.same.2.2⟩, h.turns.trans k.turns h.fresh, fun x hx => by
    rcases k.fresh x hx with h1 | h1
    · exact h.fresh x h1
    · exact .inr (Nat.le_trans h.turns.size h1)⟩

/-- The two first cells turned. -/
theorem power_did {w w' : World} {B p : Nat} {D : DL} {st : DS} {L : Int} {d : Bool} (h : DiskIs w B D p st) (hb : Blk w' D.g (.int .i64 L :: .int .u32 (dflag d) :: [.slice (some ⟨D.s, 0, none⟩) p p, .slice (some ⟨D.m, 0, none⟩) p p, D.v]) 66)
    (t : Turns [D.g] w w') (hL : 0 ≤ L ∧ L ≤ 9223372036854775807) : DiskDid w B D p ⟨L, d, st.synced, st.now, st.writes⟩ w' D := by
  have n1 : D.s ∉ [D.g] := by simpa using Ne.symm h.ap1.1
  have n2 : D.m ∉ [D.g] := by simpa using Ne.symm h.ap1.2.1
  refine ⟨⟨hb, h.syn.turns t n1, h.now.turns t n2, ?_, h.lenS, h.lenN, hL, h.pages, h.ap1, h.ap2, h.low⟩, ⟨rfl, rfl, rfl⟩, t.mono (fun x hx => .inl (by simp at hx; subst hx; simp [DL.all])), fun x hx => .inl hx⟩
  obtain ⟨h1, h2⟩ := h.own
  refine ⟨h1, ?_⟩
  rcases h2 with h2 | ⟨g, cap, cur, hv, hg, hh, r⟩
  · exact Or.inl h2
  · refine Or.inr ⟨g, cap, cur, hv, hg, ?_, r⟩
    rw [t.block g (Array.getElem?_eq_some_iff.1 hh).1 (by
      intro hm
      simp at hm
      exact h.ap2.1 (by rw [hv, hm]; rfl))]
    exact hh

theorem step_did (w : World) (B : Nat) (D : DL) (p : Nat) (st : DS) (h : DiskIs w B D p st) :
    Calls Try.prog 39 #[.pointer (some ⟨D.g, 0, none⟩)] w fun e w' => e = .returned (.bool (decide (st.left = 1))) ∧
      DiskDid w B D p ⟨if 0 < st.left then st.left - 1 else st.left, st.dead || decide (st.left = 1), st.synced, st.now, st.writes⟩ w' D :=
  (step_any D.g st.left st.dead _ w h.head h.left0.1 h.left0.2).mono fun e w' ⟨he, hb, ht⟩ => ⟨he, power_did h hb ht (by have := h.left0; split <;> omega)⟩
/-- What owns a row is a slice value. -/
theorem own_form {w : World} {base : Nat} {e : TypeId} {size n : Nat} {v : Value} {xs : List Value} (h : w.ownsRow base e size v n xs) : ∃ A c, v = .slice A n c := by
  rcases h.2 with ⟨rfl, rfl⟩ | ⟨g, cap, cur, rfl, _⟩
  · exact ⟨_, _, rfl⟩
  · exact ⟨_, _, rfl⟩
/-- A row that is owned stands where other blocks turn. -/
theorem own_turns {w w' : World} {L : List Nat} {base : Nat} {e : TypeId} {size n : Nat} {v : Value} {xs : List Value} (h : w.ownsRow base e size v n xs) (t : Turns L w w') (hL : ∀ g, v.ownBlock = some g → g ∉ L) : w'.ownsRow base e size v n xs := by
  obtain ⟨h1, h2⟩ := h
  refine ⟨h1, ?_⟩
  rcases h2 with h2 | ⟨g, cap, cur, hv, hg, hh, r⟩
  · exact Or.inl h2
  · refine Or.inr ⟨g, cap, cur, hv, hg, ?_, r⟩
    rw [t.block g (Array.getElem?_eq_some_iff.1 hh).1 (hL g (by rw [hv]; rfl))]
    exact hh
end Go.Proofs.Ytdhbaepmbgoobaa
