/- sha.Sum over parts laid side by side. -/
import Derived.Test.YtibolcekhdapaaaHexC
import Derived.Test.YtibolcekhdapaaaWithinL
import Derived.Lib.SlBytesConst
import Derived.Lib.SmallJoins
namespace Go.Proofs.Ytibolcekhdapaaa
open Go.RowKit
set_option linter.unusedVariables false
set_option maxRecDepth 10000
set_option linter.unusedSimpArgs false
set_option linter.unnecessarySimpa false

theorem below_of {w w' : World} (t : Turns [] w w') : Below w.heap.size w w' := t.below (Nat.le_refl _) (by simp)
theorem Sum_lit (ls : List (Value × List UInt8)) (w : World) (h : ∀ p ∈ ls, Sl w w.heap.size 1 p.1 p.2.length (bvs p.2)) (hn : (flat ls).length ≤ 1000000000) (hl : ls.length ≤ 1000000) :
    Calls Try.prog 10 #[.slice (some ⟨w.heap.size, 0, none⟩) ls.length ls.length] (w.alloc (.cells (ls.map (·.1)).toArray 26)) fun e w' => e = .returned (.agg (bvs (sha (flat ls))).toArray) ∧ Turns [] w w' := by
  have hs := Sl.new w (ls.map (·.1)).toArray 26 ls.length 1 (by simp) (by simp only [maxLen]; omega)
  refine (Sum_any _ ls _ (by simpa using hs) (fun p hp => ((h p hp).alloc (Nat.le_refl _) _).more (by simp)) hn hl).mono ?_
  rintro e w' ⟨rfl, t⟩
  exact ⟨rfl, ((Turns.refl [] w).alloc _).trans t (by simp)⟩
/-- One part. -/
theorem Sum_one (v : Value) (b : List UInt8) (w : World) (h : Sl w w.heap.size 1 v b.length (bvs b)) (hn : b.length ≤ 1000000000) :
    Calls Try.prog 10 #[.slice (some ⟨w.heap.size, 0, none⟩) 1 1] (w.alloc (.cells #[v] 26)) fun e w' => e = .returned (.agg (bvs (sha b)).toArray) ∧ Turns [] w w' := by
  have := Sum_lit [(v, b)] w (by intro p hp; simp at hp; subst hp; exact h) (by simpa [flat] using hn) (by simp)
  simpa [flat] using this
theorem Sum_two (v u : Value) (b c : List UInt8) (w : World) (h : Sl w w.heap.size 1 v b.length (bvs b)) (h' : Sl w w.heap.size 1 u c.length (bvs c)) (hn : b.length + c.length ≤ 1000000000) :
    Calls Try.prog 10 #[.slice (some ⟨w.heap.size, 0, none⟩) 2 2] (w.alloc (.cells #[v, u] 26)) fun e w' => e = .returned (.agg (bvs (sha (b ++ c))).toArray) ∧ Turns [] w w' := by
  have := Sum_lit [(v, b), (u, c)] w (by intro p hp; simp at hp; rcases hp with rfl | rfl; exact h; exact h') (by simpa [flat] using hn) (by simp)
  simpa [flat] using this
theorem Sl.byte (w : World) (x : UInt8) (u : Value) (hu : u = u8v x) : Sl (w.alloc (.cells #[u] 5)) (w.heap.size + 1) 1 (.slice (some ⟨w.heap.size, 0, none⟩) 1 1) 1 (bvs [x]) := by
  subst hu
  exact Sl.new w #[u8v x] 5 1 1 rfl (by simp [maxLen])
theorem u8_ex (e : Int) (h0 : 0 ≤ e) (h1 : e ≤ 255) : ∃ b : UInt8, Value.int .u8 e = u8v b := by
  refine ⟨UInt8.ofNat e.toNat, ?_⟩
  unfold u8v
  congr 1
  rw [UInt8.toNat_ofNat']
  omega

theorem Sl.new_mark (w : World) (cs : Array Value) (t : TypeId) (fr : Nat × Nat) (n size : Nat) (h : cs.size = n * size) (hm : n ≤ maxLen) : Sl (w.alloc (.cells cs t fr)) (w.heap.size + 1) size (.slice (some ⟨w.heap.size, 0, none⟩) n n) n cs.toList :=
  ⟨by simpa using h, _, n, rfl, Nat.le_refl _, hm, (fun h => by cases h), fun _ => ⟨_, _, rfl, Nat.lt_succ_self _, fun j u hu => by
    rw [World.cell?_alloc_mark, Nat.zero_add]
    simpa using hu⟩⟩
set_option maxRecDepth 100000 in
theorem sha_abc : (hexL (sha [97, 98, 99])).take 8 = [98, 97, 55, 56, 49, 54, 98, 102] := by decide +kernel
set_option maxHeartbeats 1000000 in
theorem known_any (w : World) : Calls Try.prog 8 #[] w fun e w' => e = .returned (.bool true) ∧ Turns [] w w' := by
  have kc1 := Lib.run_convert_bytes_const (P := Try.prog) w 26 5 #[.int .u8 97] 1 1 Try.underlying26 und_u8
  have kc2 := Go.Joins.run_convert_bytes_const_at (P := Try.prog) (w.alloc (.cells #[.int .u8 97] 5 (1, 2))) 26 5 #[.int .u8 98, .int .u8 99] 2 2 (w.heap.size + 1) (by simp) Try.underlying26 und_u8
  obtain ⟨X2, hX2⟩ : ∃ X, X = (w.alloc (.cells #[.int .u8 97] 5 (1, 2))).alloc (.cells #[.int .u8 98, .int .u8 99] 5 (2, 3)) := ⟨_, rfl⟩
  have s1 : Sl X2 X2.heap.size 1 (.slice (some ⟨w.heap.size, 0, none⟩) 1 1) 1 (bvs [97]) := by
    rw [hX2]
    exact (((Sl.new_mark w #[.int .u8 97] 5 (1, 2) 1 1 rfl (by simp [maxLen])).more (by simp)).alloc (Nat.le_refl _) _).more (by simp)
  have s2 : Sl X2 X2.heap.size 1 (.slice (some ⟨w.heap.size + 1, 0, none⟩) 2 2) 2 (bvs [98, 99]) := by
    rw [hX2]
    have := Sl.new_mark (w.alloc (.cells #[.int .u8 97] 5 (1, 2))) #[.int .u8 98, .int .u8 99] 5 (2, 3) 2 1 rfl (by simp [maxLen])
    rw [World.size_alloc] at this
    exact this.more (by simp)
  have SU := Sum_two _ _ [97] [98, 99] X2 s1 s2 (by simp)
  have e2 : X2.heap.size = w.heap.size + 2 := by rw [hX2]; simp
  have t2 : Turns [] w X2 := by rw [hX2]; exact ((Turns.refl [] w).alloc _).alloc _
  rw [show ([97] : List UInt8) ++ [98, 99] = [97, 98, 99] from rfl, e2, hX2] at SU
  rw [hX2] at t2
  have SH := Lib.hid SU
  have HT := Lib.hid t2
  obtain ⟨S, hS⟩ : ∃ S, S = strOf (hexL (sha [97, 98, 99])) := ⟨_, rfl⟩
  have hs : S.size = 64 := by rw [hS, strOf_size, hexL_len, sha_len]
  have he : S.extract 0 8 = ⟨#[98, 97, 55, 56, 49, 54, 98, 102]⟩ := by
    rw [hS]
    apply ByteArray.ext
    rw [ByteArray.data_extract]
    apply Array.ext'
    rw [Array.toList_extract]
    simpa [strOf] using sha_abc
  have HHX := Lib.hid (fun w => Hex_any (sha [97, 98, 99]) (sha_len _) w)
  rw [← hS] at HHX
  clear SU t2 s1 s2 e2 hX2 hS
  go_enter Try.func8, Try.ntmps8
  go_wp2_with fail
  refine SH.out.mono ?_
  rintro e w3 ⟨rfl, t3⟩
  have HT3 := Lib.hid (HT.out.trans t3 (by simp))
  clear t3 SH
  go_wp2_with fail
  refine (HHX.out w3).mono ?_
  rintro e w4 ⟨rfl, t4⟩
  have HT4 := Lib.hid (HT3.out.trans t4 (by simp))
  clear t4
  go_wp2_with fail
  go_ret
  exact ⟨rfl, HT4.out⟩
end Go.Proofs.Ytibolcekhdapaaa
