/- What is laid behind. -/
import Derived.Test.YtibolcekhdapaaaSha4
import Derived.Test.YtibolcekhdapaaaConc
import Derived.Test.YtibolcekhdapaaaMine
namespace Go.Proofs.Ytibolcekhdapaaa
open Go.RowKit
set_option linter.unusedVariables false
set_option maxRecDepth 10000
set_option linter.unusedSimpArgs false
set_option linter.unnecessarySimpa false

theorem Mine.len {W0 w : World} {v : Value} {bs : List UInt8} (h : Mine W0 w v bs) : ∃ A c, v = .slice A bs.length c ∧ bs.length ≤ c := by
  obtain ⟨_, A, c, rfl, h1, _⟩ := h.sl
  exact ⟨A, c, rfl, h1⟩
/-- The padding so far: noughts till the length is 56 over a piece. -/
def padK (b : List UInt8) (k : Nat) : List UInt8 := b ++ [128] ++ List.replicate k 0
theorem padK_len (b : List UInt8) (k : Nat) : (padK b k).length = b.length + 1 + k := by simp [padK]; omega
theorem padK_step (b : List UInt8) (k : Nat) : padK b (k + 1) = padK b k ++ [0] := by unfold padK; rw [List.replicate_succ', ← List.append_assoc]
def beTo (n k : Nat) : List UInt8 := (List.range k).map fun i => UInt8.ofNat (n / 2 ^ (56 - 8 * i))
theorem beTo_step (n k : Nat) : beTo n (k + 1) = beTo n k ++ [UInt8.ofNat (n / 2 ^ (56 - 8 * k))] := by unfold beTo; rw [List.range_succ]; simp
theorem beTo_len (n k : Nat) : (beTo n k).length = k := by simp [beTo]
theorem padded_eq (b : List UInt8) : padded b = padK b (padZ b.length) ++ beTo (b.length * 8) 8 := rfl

/-- A row of one's own; what has turned since W0: the blocks of L, and what is new. -/
structure MineL (L : List Nat) (W0 w : World) (v : Value) (bs : List UInt8) : Prop where
  own : w.ownsRow 0 5 1 v bs.length (bvs bs)
  turns : Turns L W0 w
  lies : ∀ k, v.ownBlock = some k → k ∈ L ∨ W0.heap.size ≤ k
theorem MineL.of {W0 w : World} {v : Value} {bs : List UInt8} (h : Mine W0 w v bs) : MineL v.ownBlock.toList w w v bs := ⟨own_more h.own (Nat.zero_le _), Turns.refl _ _, by intro k hk; exact .inl (by simp [hk])⟩
theorem own_up {w : World} {base n : Nat} {e : TypeId} {v : Value} {xs : List Value} (h : w.ownsRow 0 e 1 v n xs) (hb : ∀ k, v.ownBlock = some k → base ≤ k) : w.ownsRow base e 1 v n xs := by
  refine ⟨h.1, ?_⟩
  rcases h.2 with h2 | ⟨g, cap, cur, hv, hg, r⟩
  · exact Or.inl h2
  · exact Or.inr ⟨g, cap, cur, hv, hb g (by rw [hv]; rfl), r⟩
theorem MineL.mine {W0 w w' : World} {v v' : Value} {bs cs : List UInt8} (m : Mine W0 w v bs) (h : MineL v.ownBlock.toList w w' v' cs) : Mine W0 w' v' cs :=
  ⟨own_up h.own (by intro k hk; rcases h.lies k hk with h1 | h1; exact (m.own.lt k (by simpa using h1)).1; exact Nat.le_trans m.turns.size h1), m.turns.trans h.turns (by intro x hx; exact .inr (m.own.lt x (by simpa using hx)).1)⟩
theorem MineL.len {L : List Nat} {W0 w : World} {v : Value} {bs : List UInt8} (h : MineL L W0 w v bs) : ∃ A c, v = .slice A bs.length c ∧ bs.length ≤ c := by
  obtain ⟨_, A, c, rfl, h1, _⟩ := Sl.of_own h.own
  exact ⟨A, c, rfl, h1⟩
theorem MineL.alloc {L : List Nat} {W0 w : World} {v : Value} {bs : List UInt8} (h : MineL L W0 w v bs) (o : Obj) : MineL L W0 (w.alloc o) v bs := ⟨h.own.alloc o, h.turns.alloc o, h.lies⟩
theorem mineL_apd {L : List Nat} {W0 w w' : World} {v v' : Value} {n m : Nat} {bs cs : List UInt8} (h : MineL L W0 w v bs) (ap : Apd 0 5 1 w v n (bvs bs) w' v' m (bvs cs)) : MineL L W0 w' v' cs := by
  have hl := ap.own.1
  rw [bvs_length, Nat.mul_one] at hl
  subst hl
  refine ⟨ap.own, ?_, ?_⟩
  · exact h.turns.trans (L' := v.ownBlock.toList) (Turns.of_grown ap.grown (by intro k hk; exact .inl (by simpa using hk))) (by intro x hx; exact h.lies x (by simpa using hx))
  · intro k hk
    rcases ap.lies with e | ⟨g, hg, hge⟩
    · exact h.lies k (by rw [← e]; exact hk)
    · rw [hg] at hk; injection hk with hk; subst hk; exact .inr (Nat.le_trans h.turns.size hge)
/-- One byte more, out of a literal. -/
theorem mine_push {L : List Nat} {W0 w : World} {v : Value} {bs : List UInt8} (h : MineL L W0 w v bs) (hm : bs.length ≤ 2000000000) (x : UInt8) (u : Value) (hu : u = u8v x) (ty : TypeId) :
    ∃ v' w', (Builtin.append_ #[26, 26] ty #[v, .slice (some ⟨w.heap.size, 0, none⟩) 1 1]).run Try.prog (w.alloc (.cells #[u] 5)) = .ok v' w' ∧ MineL L W0 w' v' (bs ++ [x]) := by
  subst hu
  obtain ⟨v1, w1, hr1, ap1⟩ := run_append_rd (P := Try.prog) _ T8 ty (h.own.alloc (.cells #[u8v x] 5)) (Sl.new w #[u8v x] 5 1 1 rfl (by simp [maxLen])) (by intro u hu; simp at hu; subst hu; rfl) (by simp only [maxLen]; omega) (by omega) (by simp)
  refine ⟨v1, w1, hr1, ?_⟩
  have h' := h.alloc (.cells #[u8v x] 5)
  have e : bvs bs ++ [u8v x] = bvs (bs ++ [x]) := by rw [bvs_append]; rfl
  have ap2 := ap1
  rw [show bvs bs ++ (#[u8v x] : Array Value).toList = bvs (bs ++ [x]) from e] at ap2
  exact mineL_apd h' ap2
def vlen : Value → Nat
  | .slice _ n _ => n
  | _ => 0
theorem be_val (n j : Nat) (hn : n < 18446744073709551616) : Value.int .u8 (IntKind.u8.wrap ((n : Int) / 2 ^ (56 - 8 * j))) = u8v (UInt8.ofNat (n / 2 ^ (56 - 8 * j))) := by
  unfold u8v
  rw [IntKind.wrap_u8, UInt8.toNat_ofNat']
  congr 1
theorem padZ_lt (n : Nat) : padZ n < 64 := by unfold padZ; omega
theorem padZ_spec (n k : Nat) (hk : k ≤ padZ n) : (n + 1 + k) % 64 = 56 ↔ k = padZ n := by
  unfold padZ at *
  omega

set_option maxRecDepth 100000 in
set_option maxHeartbeats 2000000 in
theorem padded_any {L : List Nat} {W0 w : World} {v : Value} {b : List UInt8} (h : MineL L W0 w v b) (hm : b.length ≤ 1000000000) :
    Calls Try.prog 24 #[v] w fun e w' => ∃ v', e = .returned v' ∧ MineL L W0 w' v' (padded b) := by
  obtain ⟨res, hres⟩ : ∃ r, r = padded b := ⟨_, rfl⟩
  rw [← hres]
  have HRES := Lib.hid hres
  clear hres
  obtain ⟨A, c, rfl, hc⟩ := h.len
  obtain ⟨v1, w1, hr1, m1⟩ := mine_push h (by omega) 128 (.int .u8 128) rfl 26
  have M1 := Lib.hid m1
  have hb8 : IntKind.u64.wrap (b.length : Int) = (b.length : Int) := by rw [IntKind.wrap_u64]; omega
  have hb88 : IntKind.u64.wrap ((b.length : Int) * 8) = (b.length : Int) * 8 := by rw [IntKind.wrap_u64]; omega
  clear m1 h
  go_enter Try.func24, Try.ntmps24
  go_wp2_with (at_builtin; refine wpList_append_at rfl (.tmp 9) (.tmp 10) rfl hr1 rfl rfl ?_)
  clear hr1
  have hpz := padZ_lt b.length
  go_loopw [0] (fun v wr => ∃ (k : Nat) (A : Option Addr) (c : Nat), k ≤ padZ b.length ∧ v = .slice A (b.length + 1 + k) c ∧ MineL L W0 wr (.slice A (b.length + 1 + k) c) (padK b k)) (fun v _ => b.length + 100 - vlen v)
  case atStart =>
    have m1 := M1.out
    obtain ⟨A1, c1, rfl, _⟩ := m1.len
    exact ⟨0, A1, c1, by omega, by simp, by simpa [padK] using m1⟩
  case round =>
    clear M1
    obtain ⟨k, A1, c1, hk, rfl, mk⟩ := hrel
    have hsp := padZ_spec b.length k hk
    by_cases hkz : k = padZ b.length
    · have h56 : ((b.length + 1 + k : Nat) : Int) % 64 = 56 := by have := hsp.2 hkz; omega
      clear hsp
      obtain ⟨pz, hpz2⟩ : ∃ pz, pz = padZ b.length := ⟨_, rfl⟩
      rw [← hpz2] at hkz hk hpz
      subst hkz
      have hx : ((((b.length : Int) + 1 + (k : Int)) % 64) != 56) = false := by simp; omega
      have MK := Lib.hid mk
      have hpe := Lib.hid (show padK b k ++ beTo (b.length * 8) 8 = padded b by rw [hpz2]; rfl)
      clear mk hpz2 h56
      go_wp2_with fail
      go_loopw [0, 19] (fun v i wr => ∃ j : Nat, j ≤ 8 ∧ i = .int .i64 j ∧ MineL L W0 wr v (padK b k ++ beTo (b.length * 8) j)) (fun _ i _ => 8 - (intOf i).toNat)
      case atStart => exact ⟨0, by omega, rfl, by simpa [beTo] using MK.out⟩
      case round =>
        clear MK
        obtain ⟨j, hj, rfl, mj⟩ := hrel
        by_cases hlt : j < 8
        · have hji : (j : Int) < 8 := by omega
          have hval := be_val (b.length * 8) j (by omega)
          obtain ⟨v2, w2, hr2, m2⟩ := mine_push mj (by rw [List.length_append, padK_len, beTo_len]; omega) (UInt8.ofNat (b.length * 8 / 2 ^ (56 - 8 * j))) _ hval 26
          rw [List.append_assoc, ← beTo_step] at m2
          have M2 := Lib.hid m2
          have e0 : 0 ≤ 56 - 8 * (j : Int) := by omega
          have e1 : min (56 - 8 * (j : Int)).toNat 64 = 56 - 8 * j := by omega
          have w0 : IntKind.i64.wrap (8 * (j : Int)) = 8 * (j : Int) := IntWalk.i64_in _ (by omega)
          have w1 : IntKind.i64.wrap (56 - 8 * (j : Int)) = 56 - 8 * (j : Int) := IntWalk.i64_in _ (by omega)
          clear m2 mj hval
          go_wp2_with (at_builtin; refine wpList_append_at rfl (.tmp 22) (.tmp 29) rfl hr2 rfl rfl ?_)
          clear hr2
          go_roundw
          case rel => exact ⟨j + 1, by omega, by go_num, M2.out⟩
          case measure => (simp [intOf] <;> omega)
        · obtain rfl : j = 8 := by omega
          rw [hpe.out] at mj
          have M := Lib.hid mj
          clear mj
          go_wp2_with fail
          go_ret
          exact ⟨_, rfl, by rw [HRES.out]; exact M.out⟩
    · have h56 : ¬ ((b.length + 1 + k : Nat) : Int) % 64 = 56 := by have := fun h => hkz (hsp.1 h); omega
      obtain ⟨v2, w2, hr2, m2⟩ := mine_push mk (by rw [padK_len]; omega) 0 (.int .u8 0) rfl 26
      rw [← padK_step] at m2
      obtain ⟨A2, c2, rfl, _⟩ := m2.len
      rw [padK_len] at m2 hr2
      have M2 := Lib.hid m2
      have hx : (((b.length : Int) + 1 + (k : Int)) % 64 != 56) = true := by simp; omega
      clear m2 mk hsp
      go_wp2_with (at_builtin; refine wpList_append_at rfl (.tmp 16) (.tmp 17) rfl hr2 rfl rfl ?_)
      clear hr2
      go_roundw
      case rel => exact ⟨k + 1, A2, c2, by omega, rfl, M2.out⟩
      case measure => (simp [vlen] <;> omega)
end Go.Proofs.Ytibolcekhdapaaa
