/- Contracts of package code: what is written. -/
import Derived.Test.YtfehhiegnhplhaaLib
namespace Go.Proofs.Ytfehhiegnhplhaa
open Go.RowKit
set_option linter.unusedVariables false
set_option maxRecDepth 10000
set_option linter.unusedSimpArgs false
set_option linter.unnecessarySimpa false

/-- The k-th byte of a number, the lowest first. -/
def byteAt (n : Int) (k : Nat) : UInt8 := UInt8.ofNat (IntKind.u64.wrap n / 2 ^ (8 * k) % 256).toNat
theorem u8v_ofNat (x : Int) (h0 : 0 ≤ x) (h1 : x < 256) : u8v (UInt8.ofNat x.toNat) = .int .u8 x := by
  unfold u8v
  rw [UInt8.toNat_ofNat', Nat.mod_eq_of_lt (by omega), Int.toNat_of_nonneg h0]
theorem u8v_byteAt (n : Int) (k : Nat) : Value.int .u8 (IntKind.u64.wrap n / 2 ^ (8 * k) % 256) = u8v (byteAt n k) := by
  unfold byteAt
  rw [u8v_ofNat _ (by omega) (by omega)]
theorem range_step (f : Nat → UInt8) (k : Nat) : (List.range (k + 1)).map f = (List.range k).map f ++ [f k] := by rw [List.range_succ]; simp
def le8 (n : Int) : List UInt8 := (List.range 8).map (byteAt n)

set_option maxHeartbeats 400000 in
theorem Int_any (v : Value) (m : Nat) (bs : List UInt8) (n : Int) (w : World) (h : Sl w w.heap.size 1 v m (bvs bs)) (hm : m ≤ 1000000000) :
    Calls Try.prog 19 #[v, .int .i64 n] w fun e w' => ∃ v', e = .returned v' ∧ w'.ownsRow w.heap.size 5 1 v' (m + 8) (bvs (bs ++ le8 n)) ∧ Below w.heap.size w w' := by
  go_enter Try.func19, Try.ntmps19
  go_wp2_with fail
  refine (Clone_any v m (bvs bs) (bvs_one _) _ h (by omega)).mono ?_
  rintro e w1 ⟨v1, rfl, own1, bel1⟩
  go_wp2_with fail
  go_loopw [5, 9] (fun v i wr => ∃ k : Nat, k ≤ 8 ∧ i = .int .i64 k ∧ wr.ownsRow w.heap.size 5 1 v (m + k) (bvs (bs ++ (List.range k).map (byteAt n))) ∧ Below w.heap.size w wr) (fun _ i _ => 8 - (intOf i).toNat)
  case atStart => exact ⟨0, by omega, rfl, by simpa using own1, bel1⟩
  case round =>
    obtain ⟨k, hk, rfl, hown, hbel⟩ := hrel
    have hs := hbel.size
    by_cases hlt : k < 8
    · go_wp2_with (at_builtin; refine wpList_append _ rfl (.tmp 12) (.tmp 19) rfl (run_append_rd _ T8 _ (hown.alloc _) (Sl.new wr _ _ 1 1 rfl (by simp [maxLen])) (by intro u hu; simp at hu; subst hu; rfl) (by simp only [maxLen]; omega) (by omega) (by simp; omega)) rfl rfl ?_; intro v' w' ap)
      go_roundw
      case rel =>
        refine ⟨k + 1, by omega, by go_num, ?_, ap.below (hbel.alloc hs _) (hown.alloc _) (Nat.le_refl _) (by simp; omega)⟩
        rw [range_step, ← List.append_assoc, bvs_append]
        have := ap.own
        rw [u8v_byteAt] at this
        exact this
      case measure => simp [intOf]; omega
    · have : k = 8 := by omega
      subst this
      go_wp2_with fail
      refine (Clone_any _ _ _ (bvs_one _) _ (Sl.of_own hown) (by omega)).mono ?_
      rintro e w2 ⟨v2, rfl, own2, bel2⟩
      go_wp2_with fail
      go_ret
      exact ⟨v2, rfl, own_more own2 hs, hbel.trans (bel2.mono hs)⟩

/-- The lowest byte of a number. -/
def byte1 (n : Int) : UInt8 := UInt8.ofNat (n % 256).toNat
theorem u8v_byte1 (n : Int) : Value.int .u8 (n % 256) = u8v (byte1 n) := by
  unfold byte1
  rw [u8v_ofNat _ (by omega) (by omega)]

theorem Sl.cast {w : World} {B size n : Nat} {v : Value} {xs ys : List Value} (h : Sl w B size v n xs) (e : xs = ys) : Sl w B size v n ys := e ▸ h
theorem own_cast {w : World} {base : Nat} {e : TypeId} {size n m : Nat} {v : Value} {xs ys : List Value} (h : w.ownsRow base e size v n xs) (hn : n = m) (hx : xs = ys) : w.ownsRow base e size v m ys := hn ▸ hx ▸ h

set_option maxHeartbeats 400000 in
theorem Byte_any (v : Value) (bs : List UInt8) (n : Int) (w : World) (h : Sl w w.heap.size 1 v bs.length (bvs bs)) (hm : bs.length ≤ 1000000000) :
    Calls Try.prog 18 #[v, .int .i64 n] w fun e w' => ∃ v', e = .returned v' ∧ w'.ownsRow w.heap.size 5 1 v' (bs.length + 1) (bvs (bs ++ [byte1 n])) ∧ Below w.heap.size w w' := by
  have h' := h
  obtain ⟨hlen, A, c, rfl, hnc, hcm, hA, hrd⟩ := h
  go_enter Try.func18, Try.ntmps18
  go_wp2_with fail
  have s1 := (h'.alloc (Nat.le_refl _) (.cells #[.int .u8 (n % 256)] 5)).alloc (by simp) (.cells #[.slice A bs.length c, .slice (some ⟨w.heap.size, 0, none⟩) 1 1] 29)
  have s2 := (Sl.new w #[.int .u8 (n % 256)] 5 1 1 rfl (by simp [maxLen])).alloc (by simp) (.cells #[.slice A bs.length c, .slice (some ⟨w.heap.size, 0, none⟩) 1 1] 29)
  have s3 := Sl.new (w.alloc (.cells #[.int .u8 (n % 256)] 5)) #[.slice A bs.length c, .slice (some ⟨w.heap.size, 0, none⟩) 1 1] 29 2 1 rfl (by simp [maxLen])
  simp only [World.size_alloc] at s3
  refine (Concat_any _ [(.slice A bs.length c, bs), (.slice (some ⟨w.heap.size, 0, none⟩) 1 1, [byte1 n])] _ (s3.more (by simp)) ?_ (by simp [flat]; omega) (by simp)).mono ?_
  · intro p hp
    simp at hp
    rcases hp with rfl | rfl
    · exact s1.more (by simp <;> omega)
    · exact (s2.cast (by rw [u8v_byte1]; rfl)).more (by simp)
  rintro e w1 ⟨v1, rfl, own1, bel1⟩
  go_wp2_with fail
  go_ret
  exact ⟨_, rfl, own_more (own_cast own1 (by simp [flat]) (by simp [flat])) (by simp <;> omega), (((Below.refl _ _).alloc (Nat.le_refl _) _).alloc (by simp) _).trans (bel1.mono (by simp <;> omega))⟩

theorem T8s : SliceTy Try.prog 36 29 (.slice none 0 0) 1 24 := ⟨Try.underlying36, by kernel_rfl, rfl, by omega⟩

/-- The text as it is written: at most 65535 bytes. -/
def cutText (s : List UInt8) : List UInt8 := s.take 65535
def textBytes (s : List UInt8) : List UInt8 := [byte1 (cutText s).length, byte1 ((cutText s).length / 256)] ++ cutText s

set_option maxHeartbeats 1000000 in
theorem Text_any (v : Value) (bs : List UInt8) (s : ByteArray) (w : World) (h : Sl w w.heap.size 1 v bs.length (bvs bs)) (hm : bs.length ≤ 1000000000) (hs : s.size ≤ maxLen) :
    Calls Try.prog 20 #[v, .string s] w fun e w' => ∃ v', e = .returned v' ∧ w'.ownsRow w.heap.size 5 1 v' (bs ++ textBytes s.data.toList).length (bvs (bs ++ textBytes s.data.toList)) ∧ Below w.heap.size w w' := by
  have h' := h
  unfold maxLen at hs
  obtain ⟨hlen, A, c, rfl, hnc, hcm, hA, hrd⟩ := h
  -- what stands behind the cut, whatever it is
  have key : ∀ (t : ByteArray) (m : Nat) (x y : Int) (W : World), t.size = m → t.data.toList = cutText s.data.toList → Value.int .u8 x = u8v (byte1 t.size) → Value.int .u8 y = u8v (byte1 (t.size / 256)) →
      W = (Lib.bytesWorld (w.alloc (.cells #[.int .u8 x, .int .u8 y] 5)) 5 t).alloc (.cells #[.slice A bs.length c, .slice (some ⟨w.heap.size, 0, none⟩) 2 2, .slice (some ⟨w.heap.size + 1, 0, none⟩) m (grownCap (w.alloc (.cells #[.int .u8 x, .int .u8 y] 5)) m 0 5)] 29) →
      Calls Try.prog 40 #[.slice (some ⟨w.heap.size + 2, 0, none⟩) 3 3] W fun e w' => ∃ v', e = .returned v' ∧ w'.ownsRow w.heap.size 5 1 v' (bs ++ textBytes s.data.toList).length (bvs (bs ++ textBytes s.data.toList)) ∧ Below w.heap.size w w' := by
    intro t m x y W hm ht hx hy hW
    subst hW hm
    have htl : t.size = (cutText s.data.toList).length := by rw [← ht]; rfl
    have htm : t.size ≤ 65535 := by rw [htl]; simp [cutText]; omega
    have b1 := below_bytesWorld (w.alloc (.cells #[.int .u8 x, .int .u8 y] 5)) 5 t
    have s1 := (h'.alloc (Nat.le_refl _) (.cells #[.int .u8 x, .int .u8 y] 5)).below_le b1 (by simp)
    have s2 := (Sl.new w #[.int .u8 x, .int .u8 y] 5 2 1 rfl (by simp [maxLen])).below_le b1 (by simp)
    have s3 := Sl.bytesWorld (w.alloc (.cells #[.int .u8 x, .int .u8 y] 5)) 5 t (by simp only [maxLen]; omega)
    have hsz : (Lib.bytesWorld (w.alloc (.cells #[.int .u8 x, .int .u8 y] 5)) 5 t).heap.size = w.heap.size + 2 := by rw [Lib.bytesWorld_size]; simp
    have bel : Below w.heap.size w (Lib.bytesWorld (w.alloc (.cells #[.int .u8 x, .int .u8 y] 5)) 5 t) := ((Below.refl _ _).alloc (Nat.le_refl _) _).trans (b1.mono (by simp))
    generalize Lib.bytesWorld (w.alloc (.cells #[.int .u8 x, .int .u8 y] 5)) 5 t = W1 at *
    generalize grownCap (w.alloc (.cells #[.int .u8 x, .int .u8 y] 5)) t.size 0 5 = cc at *
    simp only [World.size_alloc] at s3
    have s4 := Sl.new W1 #[.slice A bs.length c, .slice (some ⟨w.heap.size, 0, none⟩) 2 2, .slice (some ⟨w.heap.size + 1, 0, none⟩) t.size cc] 29 3 1 rfl (by simp [maxLen])
    have e2 : textBytes s.data.toList = [byte1 t.size, byte1 (t.size / 256)] ++ t.data.toList := by rw [textBytes, ← htl, ht]
    rw [hsz] at s4
    refine (Concat_any _ [(.slice A bs.length c, bs), (.slice (some ⟨w.heap.size, 0, none⟩) 2 2, [byte1 t.size, byte1 (t.size / 256)]), (.slice (some ⟨w.heap.size + 1, 0, none⟩) t.size cc, t.data.toList)] _ (s4.more (by simp [hsz])) ?_ (by simp [flat]; omega) (by simp)).mono ?_
    · intro p hp
      simp at hp
      rcases hp with rfl | rfl | rfl
      · exact (s1.alloc (by omega) _).more (by simp [hsz] <;> omega)
      · exact ((s2.cast (by rw [hx, hy]; rfl)).alloc (by omega) _).more (by simp [hsz] <;> omega)
      · exact (s3.alloc (by omega) _).more (by simp [hsz] <;> omega)
    rintro e w1 ⟨v1, rfl, own1, bel1⟩
    rw [e2]
    exact ⟨_, rfl, own_more (own_cast own1 (by simp [flat]) (by simp [flat])) (by simp [hsz] <;> omega), (bel.alloc (by omega) _).trans (bel1.mono (by simp [hsz] <;> omega))⟩
  have hcv := fun (W : World) (s : ByteArray) => Lib.run_convert_string_bytes (P := Try.prog) W 9 29 5 s Try.underlying9 Try.underlying29 Try.underlying5
  have hbz := fun (W : World) (s : ByteArray) => Lib.bytesWorld_size W 5 s
  by_cases hbig : 65535 < s.size
  · have hmin : min 65535 s.size = 65535 := by omega
    have KEY := Lib.hid (key (s.extract 0 65535) 65535 255 255 _ (by simp [hmin]) (by simp [cutText]) (by simp only [ByteArray.size_extract, hmin]; rfl) (by simp only [ByteArray.size_extract, hmin]; rfl) rfl)
    clear key
    go_enter Try.func20, Try.ntmps20
    go_wp2_with fail
    refine KEY.out.mono ?_
    rintro e w1 ⟨v1, rfl, own1, bel1⟩
    go_wp2_with fail
    go_ret
    exact ⟨_, rfl, own1, bel1⟩
  · have hcut : cutText s.data.toList = s.data.toList := by unfold cutText; rw [List.take_of_length_le]; rw [str_data]; omega
    have KEY := Lib.hid (key s s.size (↑s.size % 256) (↑s.size / 256) _ rfl hcut.symm (by rw [u8v_byte1]) (by rw [← u8v_byte1]; congr 1; omega) rfl)
    clear key hcut
    go_enter Try.func20, Try.ntmps20
    go_wp2_with fail
    refine KEY.out.mono ?_
    rintro e w1 ⟨v1, rfl, own1, bel1⟩
    go_wp2_with fail
    go_ret
    exact ⟨_, rfl, own1, bel1⟩
end Go.Proofs.Ytfehhiegnhplhaa
