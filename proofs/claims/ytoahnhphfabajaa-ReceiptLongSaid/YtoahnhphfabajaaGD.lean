/- What is wrong with a value: code's Check, the document's. What is wrong with a value: both Checks. What is wrong with a value: the document's Check. A value is read: code's reader that reads values, too. Rows are read: code's Parse. Rows are read: the document's Parse. Rows held against one another; values made good; the law's small functions. Values and rows made good; the chapter's example. -/
import Derived.Test.YtoahnhphfabajaaGC
import Derived.Test.YtoahnhphfabajaaGB
import Derived.Laws.StructEq
import Derived.Deep.DeepCutAuto
namespace Go.Proofs.Ytoahnhphfabajaa
set_option maxRecDepth 10000
open Go.RowKit
set_option linter.unusedVariables false
set_option maxRecDepth 10000
set_option linter.unusedSimpArgs false
set_option linter.unnecessarySimpa false

def Val.bare (v : Val) : Val := if v.kind = 3 then ⟨3, 0, v.s⟩ else if v.kind = 1 ∨ v.kind = 2 then ⟨v.kind, v.n, ⟨#[]⟩⟩ else ⟨v.kind, 0, ⟨#[]⟩⟩
def eqV (a b : Val) : Bool := a.kind == b.kind && (a.n == b.n && a.s.toList == b.s.toList)
theorem ba_list {a b : ByteArray} (h : a.toList = b.toList) : a = b := by
  rw [ByteArray.toList_eq, ByteArray.toList_eq] at h
  obtain ⟨⟨x⟩⟩ := a
  obtain ⟨⟨y⟩⟩ := b
  simp at h
  rw [h]
theorem eqV_iff (a b : Val) : eqV a b = true ↔ a = b := by
  obtain ⟨k, n, s⟩ := a
  obtain ⟨k', n', s'⟩ := b
  unfold eqV
  simp only [Bool.and_eq_true, beq_iff_eq]
  constructor
  · rintro ⟨rfl, rfl, h⟩
    rw [ba_list h]
  · intro h
    injection h with h1 h2 h3
    subst h1 h2 h3
    exact ⟨rfl, rfl, rfl⟩
theorem none_beq (s : ByteArray) : (s.toList == (⟨#[]⟩ : ByteArray).toList) = (s.size == 0) := by
  rw [Bool.eq_iff_iff]
  simp only [beq_iff_eq]
  exact ⟨fun h => by rw [ba_list h]; rfl, fun h => by rw [ba_none h]⟩
theorem odd_bare (v : Val) (h : 0 ≤ v.kind ∧ v.kind ≤ 3) : v.odd = (!(eqV v v.bare) || (v.kind == 1 && v.n != 0 && v.n != 1)) := by
  obtain ⟨k, n, s⟩ := v
  simp only at h
  have hz := none_beq s
  have hc : k = 0 ∨ k = 1 ∨ k = 2 ∨ k = 3 := by omega
  have hnz : ∀ x : Nat, (x != 0) = !(x == 0) := fun x => rfl
  have hiz : ∀ x y : Int, (x != y) = !(x == y) := fun x y => rfl
  unfold Val.odd eqV Val.bare
  simp only [hnz, hiz]
  rcases hc with rfl | rfl | rfl | rfl
  · rw [if_neg (by omega), if_neg (by omega)]
    simp only [hz]
    cases s.size == 0 <;> cases (n == 0) <;> rfl
  · rw [if_neg (by omega), if_pos (by omega)]
    simp only [hz]
    cases s.size == 0 <;> cases (n == 0) <;> simp
  · rw [if_neg (by omega), if_pos (by omega)]
    simp only [hz]
    cases s.size == 0 <;> cases (n == 0) <;> simp
  · rw [if_pos rfl]
    cases s.size == 0 <;> cases (n == 0) <;> simp
theorem undStr : Try.prog.underlying 9 = some .string := Try.underlying9
theorem eqlV (a b : Val) : ∀ w, (Op.equalIn 10000 43 (.agg #[.int .i64 a.kind, .int .i64 a.n, .string a.s]) (.agg #[.int .i64 b.kind, .int .i64 b.n, .string b.s])).run Try.prog w = .ok (eqV a b) w := by
  intro w
  have hst : Try.prog.stoodInHeld 43 = false := by kernel_rfl
  have hu : Try.prog.underlying 43 = some (.struct (Try.prog.fieldsOf 43)) := by kernel_rfl
  have hfo : (Try.prog.fieldsOf 43) = (match Try.prog.underlying 43 with | some (.struct fs) => fs | _ => #[]) := rfl
  rw [Try.underlying43] at hfo
  rw [run_equalIn_struct w 9999 _ _ _ hu hst, hfo]
  obtain ⟨an, ak, ab⟩ := a
  obtain ⟨bn, bk, bb⟩ := b
  simp [go_sem, Op.eqFields, eqV, undStr, Try.underlying3]
  by_cases h1 : an = bn <;> by_cases h2 : ak = bk <;> by_cases h3 : ab.toList = bb.toList <;> simp [h1, h2, h3]
theorem run_neqV (a b : Val) (x y : Operand) (w : World) : ((do eqGuard .neq 43 x y (.agg #[.int .i64 a.kind, .int .i64 a.n, .string a.s]) (.agg #[.int .i64 b.kind, .int .i64 b.n, .string b.s]); binOp .neq 43 (.agg #[.int .i64 a.kind, .int .i64 a.n, .string a.s]) (.agg #[.int .i64 b.kind, .int .i64 b.n, .string b.s])) : Sem Value).run Try.prog w = .ok (.bool (!(eqV a b))) w := by
  have hm : Try.prog.eqGuardType Try.prog.depth 43 = false := by kernel_rfl
  rw [Sem.run_bind, run_eqGuard_agg w .neq _ x y _ _ hm, Result.andThen_ok, run_neq_struct, eqlV a b w]
  rfl
theorem yields_neqV {ops : Array Oper} {S : World → Prop} {op : Oper} {act : Act} (hw : Region.wanted op (yielded ops act.tmps) = true) (x y : Operand) (t : TypeId) (ho : op.op = .binOp .neq 43 x y t)
    (a b : Val) (hx : act.eval x = .agg #[.int .i64 a.kind, .int .i64 a.n, .string a.s]) (hy : act.eval y = .agg #[.int .i64 b.kind, .int .i64 b.n, .string b.s]) : YieldsIf Try.prog ops S op (.bool (!(eqV a b))) act :=
  .inl ⟨hw, fun w _ => by
    have h := run_neqV a b x y w
    rw [Sem.run_bind] at h
    unfold execOp
    simp only [ho, hx, hy, Sem.run_bind, Sem.run_pure]
    rw [h]; rfl⟩

theorem blk_mid (w : World) (o : Obj) (cs : List Value) (t : TypeId) (o2 : Obj) : Blk (((w.alloc o).alloc (.cells cs.toArray t)).alloc o2) (w.heap.size + 1) cs t := by
  have h := (Blk.new (w.alloc o) cs t).alloc o2
  have e : (w.alloc o).heap.size = w.heap.size + 1 := by simp
  rwa [e] at h
end Go.Proofs.Ytoahnhphfabajaa
namespace Go.Proofs.Ytoahnhphfabajaa
set_option maxRecDepth 10000
open Go.RowKit
set_option linter.unusedVariables false
set_option linter.unusedSimpArgs false
set_option linter.unnecessarySimpa false

theorem yields_neqVb {ops : Array Oper} {S : World → Prop} {op : Oper} {act : Act} (hw : Region.wanted op (yielded ops act.tmps) = true) (x y : Operand) (t : TypeId) (ho : op.op = .binOp .neq 43 x y t)
    (a b : Val) (r : Bool) (hr : (!(eqV a b)) = r) (hx : act.eval x = .agg #[.int .i64 a.kind, .int .i64 a.n, .string a.s]) (hy : act.eval y = .agg #[.int .i64 b.kind, .int .i64 b.n, .string b.s]) : YieldsIf Try.prog ops S op (.bool r) act := by
  subst hr
  exact yields_neqV hw x y t ho a b hx hy
theorem vcheck_mid (v : Val) (h : 0 ≤ v.kind ∧ v.kind ≤ 3) : vcheck v = if v.odd then 1 else if 60 < v.s.size then 5 else 0 := by
  unfold vcheck
  rw [if_neg (by omega)]

end Go.Proofs.Ytoahnhphfabajaa
namespace Go.Proofs.Ytoahnhphfabajaa
set_option maxRecDepth 10000
open Go.RowKit
set_option linter.unusedVariables false
set_option linter.unusedSimpArgs false
set_option linter.unnecessarySimpa false

end Go.Proofs.Ytoahnhphfabajaa
namespace Go.Proofs.Ytoahnhphfabajaa
set_option maxRecDepth 10000
open Go.RowKit
set_option linter.unusedVariables false
set_option linter.unusedSimpArgs false
set_option linter.unnecessarySimpa false

end Go.Proofs.Ytoahnhphfabajaa
namespace Go.Proofs.Ytoahnhphfabajaa
set_option maxRecDepth 10000
open Go.RowKit
set_option linter.unusedVariables false
set_option linter.unusedSimpArgs false
set_option linter.unnecessarySimpa false

theorem TV : SliceTy Try.prog 31 43 (.agg #[.int .i64 0, .int .i64 0, .string ⟨#[]⟩]) 3 32 := ⟨Try.underlying31, by kernel_rfl, rfl, by omega⟩
set_option maxHeartbeats 400000 in
theorem CloneVal_any (v : Value) (n : Nat) (bs : List Value) (h1 : ∀ u ∈ bs, u.oneCell' = true) (w : World) (h : Sl w w.heap.size 3 v n bs) (hn : n ≤ 100000) :
    Calls Try.prog 70 #[v] w fun e w' => ∃ v', e = .returned v' ∧ w'.ownsRow w.heap.size 43 3 v' n bs ∧ Turns [] w w' := by
  have h' := h
  obtain ⟨hl, A, c, rfl, hnc, hcm, hA, hrd⟩ := h
  have hnil := fun w => Lib.run_eql_slice_nil (P := Try.prog) w 31 43 A n c 0 0 Try.underlying31
  rcases A with _ | ad
  · have := hA rfl
    subst this
    have : n = 0 := by omega
    subst this
    have : bs = [] := List.eq_nil_of_length_eq_zero (by omega)
    subst this
    go_enter Try.func70, Try.ntmps70
    go_wp2_with fail
    go_ret
    exact ⟨_, rfl, World.ownsRow_nil _ _ _ _, Turns.refl _ _⟩
  · have hown : (w.alloc (.cells #[] 43)).ownsRow w.heap.size 43 3 (.slice (some ⟨w.heap.size, 0, none⟩) 0 0) 0 [] :=
      World.ownsRow_made w #[] 0 (Nat.le_refl _) (Nat.zero_le _) (by simp)
    go_enter Try.func70, Try.ntmps70
    go_wp2_with (at_builtin; refine wpList_append _ rfl (.tmp 5) (.tmp 6) rfl (run_append_rd _ TV _ hown (h'.alloc (Nat.le_refl _) _) h1 (by simp only [maxLen]; omega) (by omega) (by simp)) rfl rfl ?_; intro v' w' ap)
    go_ret
    exact ⟨v', rfl, by simpa using ap.own, Turns.of_below (L := []) (ap.below ((Below.refl _ _).alloc (Nat.le_refl _) _) hown (Nat.le_refl _) (by simp))⟩

theorem vsCheck_bad : ∀ (l : List Val) (k : Nat) (hk : k < l.length), (∀ x ∈ l.take k, vcheck x = 0) → vcheck l[k] ≠ 0 → vsCheck l = vcheck l[k]
  | [], k, hk, _, _ => by simp at hk
  | v :: l, 0, hk, _, hb => by rw [vsCheck]; exact if_neg hb
  | v :: l, k + 1, hk, ha, hb => by
    rw [vsCheck, if_pos (ha v (by simp))]
    exact vsCheck_bad l k (by simpa using hk) (fun x hx => ha x (by simp [hx])) hb
/-- What a reading hands back: a row and an error. -/
def RRes (w : World) (r : List Val × Int) (e : Ending) (w' : World) : Prop :=
  ∃ A n c, e = .returned (.tuple #[.slice A n c, .int .i64 r.2]) ∧ w'.ownsRow w.heap.size 43 3 (.slice A n c) n (valCells r.1) ∧ Turns [] w w'
/-- One value appended onto a row of one's own. -/
theorem val_append {base : Nat} {w : World} {v : Value} {l : List Val} (x : Val) (h : w.ownsRow base 43 3 v l.length (valCells l)) (hb : base ≤ w.heap.size) (hl : l.length ≤ 100000) (ty : TypeId) :
    ∃ v' w', (Builtin.append_ #[31, 31] ty #[v, .slice (some ⟨w.heap.size, 0, none⟩) 1 1]).run Try.prog (w.alloc (.cells #[.int .i64 x.kind, .int .i64 x.n, .string x.s] 43)) = .ok v' w' ∧
      w'.ownsRow base 43 3 v' (l.length + 1) (valCells (l ++ [x])) ∧ Turns v.ownBlock.toList w w' ∧ (∀ k ∈ v.ownBlock.toList, base ≤ k) ∧ (v'.ownBlock = v.ownBlock ∨ ∃ g, v'.ownBlock = some g ∧ w.heap.size ≤ g) := by
  have ho := h.alloc (.cells #[.int .i64 x.kind, .int .i64 x.n, .string x.s] 43)
  obtain ⟨v', w', hr, ap⟩ := run_append_rd (P := Try.prog) _ TV ty ho (Sl.new w #[.int .i64 x.kind, .int .i64 x.n, .string x.s] 43 1 3 rfl (by simp [maxLen])) (by intro u hu; simp at hu; rcases hu with rfl | rfl | rfl <;> rfl) (by simp only [maxLen]; omega) (by omega) (by simp; omega)
  have hbk : ∀ k ∈ v.ownBlock.toList, base ≤ k := by intro k hk; exact (h.lt k (by simpa using hk)).1
  refine ⟨v', w', hr, ?_, ?_, hbk, ?_⟩
  · rw [valCells_app]
    exact ap.own
  · exact Turns.trans (L' := v.ownBlock.toList) ((Turns.refl _ w).alloc _) (Turns.of_grown ap.grown (by intro k hk; exact .inl (by simpa using hk))) (fun k hk => .inl hk)
  · rcases ap.lies with h | ⟨g, h1, h2⟩
    · exact .inl h
    · refine .inr ⟨g, h1, ?_⟩
      simp at h2
      omega

end Go.Proofs.Ytoahnhphfabajaa
namespace Go.Proofs.Ytoahnhphfabajaa
set_option maxRecDepth 10000
open Go.RowKit
set_option linter.unusedVariables false
set_option linter.unusedSimpArgs false
set_option linter.unnecessarySimpa false

end Go.Proofs.Ytoahnhphfabajaa
namespace Go.Proofs.Ytoahnhphfabajaa
set_option maxRecDepth 10000
open Go.RowKit
set_option linter.unusedVariables false
set_option linter.unusedSimpArgs false
set_option linter.unnecessarySimpa false

def sameVs : List Val → List Val → Bool
  | [], [] => true
  | a :: l, b :: m => eqV a b && sameVs l m
  | _, _ => false
theorem sameVs_iff : ∀ (l m : List Val), sameVs l m = true ↔ l = m
  | [], [] => by simp [sameVs]
  | a :: l, b :: m => by simp [sameVs, eqV_iff, sameVs_iff l m]
  | [], b :: m => by simp [sameVs]
  | a :: l, [] => by simp [sameVs]
theorem sameVs_len {l m : List Val} (h : l.length ≠ m.length) : sameVs l m = false := by
  cases hs : sameVs l m
  · rfl
  · exact absurd (congrArg List.length ((sameVs_iff l m).1 hs)) h
theorem sameVs_at {l m : List Val} (k : Nat) (h1 : k < l.length) (h2 : k < m.length) (h : eqV l[k] m[k] = false) : sameVs l m = false := by
  cases hs : sameVs l m
  · rfl
  · exfalso
    have e := (sameVs_iff l m).1 hs
    subst e
    rw [(eqV_iff _ _).2 rfl] at h
    cases h
theorem sameVs_all {l m : List Val} (hl : l.length = m.length) (h : ∀ (k : Nat) (h1 : k < l.length) (h2 : k < m.length), eqV l[k] m[k] = true) : sameVs l m = true :=
  (sameVs_iff l m).2 (List.ext_getElem hl fun k h1 h2 => (eqV_iff _ _).1 (h k h1 h2))

theorem Few4_any (v : Val) (w : World) (hf : v.s.size ≤ maxLen) : Calls Try.prog 41 #[.agg #[.int .i64 v.kind, .int .i64 v.n, .string v.s]] w fun e w' => e = .returned (.bool (decide (v.s.size ≤ 80))) ∧ Turns [] w w' := by
  obtain ⟨k, n, s⟩ := v
  simp only at hf
  unfold maxLen at hf
  have t0 : Turns [] w (w.alloc (.cells #[.int .i64 k, .int .i64 n, .string s] 43)) := (Turns.refl [] w).alloc _
  by_cases h : s.size ≤ 80
  · have x : decide ((s.size : Int) ≤ 80) = true := decide_eq_true (by omega)
    have e : decide (s.size ≤ 80) = true := decide_eq_true h
    rw [show decide ((⟨k, n, s⟩ : Val).s.size ≤ 80) = true from e]
    go_enter Try.func41, Try.ntmps41
    go_wp2_with fail
    go_ret
    exact ⟨rfl, t0⟩
  · have x : decide ((s.size : Int) ≤ 80) = false := decide_eq_false (by omega)
    have e : decide (s.size ≤ 80) = false := decide_eq_false h
    rw [show decide ((⟨k, n, s⟩ : Val).s.size ≤ 80) = false from e]
    go_enter Try.func41, Try.ntmps41
    go_wp2_with fail
    go_ret
    exact ⟨rfl, t0⟩

def fewVs (l : List Val) : Bool := l.all (fun v => decide (v.s.size ≤ 80)) && decide (l.length ≤ 12)
theorem fewVs_bad (l : List Val) (k : Nat) (hk : k < l.length) (h : ¬ l[k].s.size ≤ 80) : fewVs l = false := by
  unfold fewVs
  rw [List.all_eq_false.2 ⟨l[k], List.getElem_mem hk, by simpa using h⟩]; rfl
theorem fewVs_end (l : List Val) (h : ∀ (j : Nat) (hj : j < l.length), l[j].s.size ≤ 80) : fewVs l = decide (l.length ≤ 12) := by
  unfold fewVs
  rw [List.all_eq_true.2 (fun c hc => by obtain ⟨j, hj, rfl⟩ := List.mem_iff_getElem.1 hc; simpa using h j hj)]
  simp
theorem fewVs_len {l : List Val} (h : fewVs l = true) : l.length ≤ 12 := by
  unfold fewVs at h
  simp only [Bool.and_eq_true, decide_eq_true_eq] at h
  exact h.2

set_option maxRecDepth 100000 in
set_option maxHeartbeats 4000000 in
theorem FewVs_any (l : List Val) (A : Option Addr) (n c B : Nat) (w : World) (hf : ∀ x ∈ l, x.fits) (hs : Sl w B 3 (.slice A n c) n (valCells l)) (hB : B ≤ w.heap.size) :
    Calls Try.prog 14 #[.slice A n c] w fun e w' => e = .returned (.bool (fewVs l)) ∧ Turns [] w w' := by
  obtain ⟨rfl, hm⟩ := sl_vals hs
  unfold maxLen at hm
  have HS := Lib.hid hs
  clear hs
  go_enter Try.func14, Try.ntmps14
  go_wp2_with fail
  go_loopw [3] (fun i wr => ∃ k : Nat, k ≤ l.length ∧ i = .int .i64 k ∧ (∀ (j : Nat) (hj : j < l.length), j < k → l[j].s.size ≤ 80) ∧ Turns [] w wr) (fun i _ => l.length - (intOf i).toNat)
  case atStart => exact ⟨0, by omega, rfl, fun j hj h => absurd h (by omega), Turns.refl _ _⟩
  case round =>
    obtain ⟨k, hk, rfl, hall, tx⟩ := hrel
    by_cases hlt : k < l.length
    · have hki : (k : Int) < (l.length : Int) := by omega
      obtain ⟨b, off, rfl, rg⟩ := val_range HS.out k hlt
      have r1 := rangeV tx rg
      have hfx := hf _ (List.getElem_mem hlt)
      have hbad := fewVs_bad l k hlt
      have hgood : l[k].s.size ≤ 80 → ∀ (j : Nat) (hj : j < l.length), j < k + 1 → l[j].s.size ≤ 80 := fun h j hj hj' => by
        by_cases e : j = k
        · subst e; exact h
        · exact hall j hj (by omega)
      obtain ⟨⟨k1, n1, s1⟩, hc1⟩ : ∃ c, c = l[k] := ⟨_, rfl⟩
      rw [← hc1] at hbad hgood r1 hfx
      replace r1 : wr.rangeAt b (off + k * 3) [.int .i64 k1, .int .i64 n1, .string s1] := r1
      have hz1 := size_val k1 n1 s1
      have F4 := Lib.hid (Few4_any ⟨k1, n1, s1⟩ wr hfx.2.2)
      have HH := Lib.hid (And.intro hbad hgood)
      have HT := Lib.hid tx
      clear hc1 hbad hgood hall rg tx hfx
      go_wp2_with (first
        | (refine wpList_load_mid rfl 43 (.tmp 12) rfl b (off + k * 3) rfl _ _ r1 Try.underlying43 rfl hz1 ?_)
        | fail)
      refine F4.out.mono ?_
      rintro e x2 ⟨rfl, t2⟩
      have HT2 := Lib.hid (HT.out.trans t2 (by simp))
      clear t2 r1 F4
      by_cases h80 : s1.size ≤ 80
      · have hd : decide ((⟨k1, n1, s1⟩ : Val).s.size ≤ 80) = true := decide_eq_true h80
        have hg := Lib.hid (HH.out.2 h80)
        rw [hd]
        go_wp2_with fail
        go_roundw
        case rel => exact ⟨k + 1, by omega, by go_num, hg.out, HT2.out⟩
        case measure => (simp [intOf] <;> omega)
      · have hd : decide ((⟨k1, n1, s1⟩ : Val).s.size ≤ 80) = false := decide_eq_false h80
        have hg := Lib.hid (HH.out.1 h80)
        rw [hd]
        go_wp2_with fail
        go_ret
        rw [hg.out]
        exact ⟨rfl, HT2.out⟩
    · obtain rfl : k = l.length := by omega
      have hf := Lib.hid (fewVs_end l (fun j hj => hall j hj hj))
      have HT := Lib.hid tx
      clear hall tx
      by_cases h12 : l.length ≤ 12
      · have x : decide ((l.length : Int) ≤ 12) = true := decide_eq_true (by omega)
        have hd := Lib.hid (decide_eq_true h12)
        go_wp2_with fail
        go_ret
        rw [hf.out, hd.out]
        exact ⟨rfl, HT.out⟩
      · have x : decide ((l.length : Int) ≤ 12) = false := decide_eq_false (by omega)
        have hd := Lib.hid (decide_eq_false h12)
        go_wp2_with fail
        go_ret
        rw [hf.out, hd.out]
        exact ⟨rfl, HT.out⟩

theorem within4_any (a n : Int) (w : World) (h1 : -9223372036854775808 ≤ a) (h2 : a ≤ 9223372036854775807) (hn : 0 < n) (hn2 : n ≤ 1000000) :
    Calls Try.prog 75 #[.int .i64 a, .int .i64 n] w fun e w' => e = .returned (.int .i64 (a % n)) ∧ w = w' := by
  have hne : (n == 0) = false := by simp; omega
  have t1 := (tmod_bounds a n hn).1
  have t2 := (tmod_bounds a n hn).2
  have hv := within_val a n hn
  by_cases ha : 0 ≤ a
  · have e0 : a.tmod n = a % n := Int.tmod_eq_emod_of_nonneg ha
    have e1 := Int.emod_nonneg a (show n ≠ 0 by omega)
    clear hv
    rw [e0] at t1 t2
    clear e0
    go_enter Try.func75, Try.ntmps75
    go_wp2_with fail
    go_ret
    exact ⟨rfl, rfl⟩
  · rw [hv]
    clear hv
    by_cases hneg : a.tmod n < 0
    · rw [if_pos hneg]
      go_enter Try.func75, Try.ntmps75
      go_wp2_with fail
      go_ret
      exact ⟨rfl, rfl⟩
    · rw [if_neg hneg]
      go_enter Try.func75, Try.ntmps75
      go_wp2_with fail
      go_ret
      exact ⟨rfl, rfl⟩
end Go.Proofs.Ytoahnhphfabajaa
namespace Go.Proofs.Ytoahnhphfabajaa
set_option maxRecDepth 10000
open Go.RowKit
set_option linter.unusedVariables false
set_option linter.unusedSimpArgs false
set_option linter.unnecessarySimpa false

theorem ext_take (s : ByteArray) : s.extract 0 60 = strOf (s.data.toList.take 60) := by
  apply ByteArray.ext
  apply Array.ext'
  simp [strOf]
theorem blk_last (w : World) (o : Obj) (cs : List Value) (t : TypeId) : Blk ((w.alloc o).alloc (.cells cs.toArray t)) (w.heap.size + 1) cs t := by
  have h := Blk.new (w.alloc o) cs t
  have e : (w.alloc o).heap.size = w.heap.size + 1 := by simp
  rwa [e] at h
set_option maxRecDepth 100000 in
set_option maxHeartbeats 4000000 in
theorem Good4_any (v : Val) (w : World) (hf : v.fits) : Calls Try.prog 42 #[.agg #[.int .i64 v.kind, .int .i64 v.n, .string v.s]] w fun e w' => e = .returned (.agg #[.int .i64 (gval v).kind, .int .i64 (gval v).n, .string (gval v).s]) ∧ Turns [] w w' := by
  obtain ⟨h1, h2, h3⟩ := hf
  obtain ⟨g, hg⟩ : ∃ g, g = gval v := ⟨_, rfl⟩
  rw [← hg]
  obtain ⟨k, n, s⟩ := v
  simp only at h1 h2 h3
  unfold maxLen at h3
  have zV := zero_val
  have WK := fun W => within4_any k 4 W h1.1 h1.2 (by omega) (by omega)
  have WN := Lib.hid (fun W => within4_any n 2 W h2.1 h2.2 (by omega) (by omega))
  have hk4 : k % 4 = 0 ∨ k % 4 = 1 ∨ k % 4 = 2 ∨ k % 4 = 3 := by omega
  have hgu := hg
  unfold gval at hgu
  simp only at hgu
  clear hg h1 h2
  rcases hk4 with h | h | h | h
  all_goals
    rw [h] at WK hgu
    replace WK := Lib.hid WK
    clear h
  · have hv := Lib.hid (show g = ⟨0, 0, ⟨#[]⟩⟩ by rw [hgu]; rfl)
    clear hgu
    go_enter Try.func42, Try.ntmps42
    go_wp2_with fail
    refine (WK.out _).mono ?_
    rintro e w1 ⟨rfl, rfl⟩
    go_wp2_with fail
    refine bodyPost_ret (results_cell_row rfl _ _ (w.heap.size + 1) _ _ _ _ rfl (blk_last w _ ([.int .i64 0, .int .i64 0, .string ⟨#[]⟩] : List Value) _) Try.underlying43 rfl (by kernel_rfl)) rfl ?_
    rw [hv.out]
    exact ⟨rfl, ((Turns.refl [] w).alloc _).alloc _⟩
  · have hv := Lib.hid (show g = ⟨1, n % 2, ⟨#[]⟩⟩ by rw [hgu]; rfl)
    clear hgu
    go_enter Try.func42, Try.ntmps42
    go_wp2_with fail
    refine (WK.out _).mono ?_
    rintro e w1 ⟨rfl, rfl⟩
    go_wp2_with fail
    refine (WN.out _).mono ?_
    rintro e w1 ⟨rfl, rfl⟩
    go_wp2_with fail
    refine bodyPost_ret (results_cell_row rfl _ _ (w.heap.size + 1) _ _ _ _ rfl (blk_last w _ ([.int .i64 1, .int .i64 (n % 2), .string ⟨#[]⟩] : List Value) _) Try.underlying43 rfl (by kernel_rfl)) rfl ?_
    rw [hv.out]
    exact ⟨rfl, ((Turns.refl [] w).alloc _).alloc _⟩
  · have hv := Lib.hid (show g = ⟨2, n, ⟨#[]⟩⟩ by rw [hgu]; rfl)
    clear hgu
    go_enter Try.func42, Try.ntmps42
    go_wp2_with fail
    refine (WK.out _).mono ?_
    rintro e w1 ⟨rfl, rfl⟩
    go_wp2_with fail
    refine bodyPost_ret (results_cell_row rfl _ _ (w.heap.size + 1) _ _ _ _ rfl (blk_last w _ ([.int .i64 2, .int .i64 n, .string ⟨#[]⟩] : List Value) _) Try.underlying43 rfl (by kernel_rfl)) rfl ?_
    rw [hv.out]
    exact ⟨rfl, ((Turns.refl [] w).alloc _).alloc _⟩
  · obtain ⟨u, hu⟩ : ∃ u, u = strOf (s.data.toList.take 60) := ⟨_, rfl⟩
    have hv := Lib.hid (show g = ⟨3, 0, u⟩ by rw [hgu, hu]; rfl)
    clear hgu
    by_cases h60 : s.size < 60
    · have x : (s.size : Int) < 60 := by omega
      have hu := Lib.hid hu
      go_enter Try.func42, Try.ntmps42
      go_wp2_with fail
      refine (WK.out _).mono ?_
      rintro e w1 ⟨rfl, rfl⟩
      go_wp2_with fail
      refine bodyPost_ret (results_cell_row rfl _ _ (w.heap.size + 1) _ _ _ _ rfl (blk_last w _ ([.int .i64 3, .int .i64 0, .string s] : List Value) _) Try.underlying43 rfl (by kernel_rfl)) rfl ?_
      rw [hv.out, hu.out, List.take_of_length_le (by rw [str_data]; omega), strOf_data]
      exact ⟨rfl, ((Turns.refl [] w).alloc _).alloc _⟩
    by_cases h61 : s.size = 60
    · have x : (s.size : Int) = 60 := by omega
      have hu := Lib.hid hu
      go_enter Try.func42, Try.ntmps42
      go_wp2_with fail
      refine (WK.out _).mono ?_
      rintro e w1 ⟨rfl, rfl⟩
      go_wp2_with fail
      refine bodyPost_ret (results_cell_row rfl _ _ (w.heap.size + 1) _ _ _ _ rfl (blk_last w _ ([.int .i64 3, .int .i64 0, .string (s.extract 0 60)] : List Value) _) Try.underlying43 rfl (by kernel_rfl)) rfl ?_
      rw [hv.out, hu.out, ← ext_take]
      exact ⟨rfl, ((Turns.refl [] w).alloc _).alloc _⟩
    · have x : (60 : Int) < (s.size : Int) := by omega
      have hu := Lib.hid hu
      go_enter Try.func42, Try.ntmps42
      go_wp2_with fail
      refine (WK.out _).mono ?_
      rintro e w1 ⟨rfl, rfl⟩
      go_wp2_with fail
      refine bodyPost_ret (results_cell_row rfl _ _ (w.heap.size + 1) _ _ _ _ rfl (blk_last w _ ([.int .i64 3, .int .i64 0, .string (s.extract 0 60)] : List Value) _) Try.underlying43 rfl (by kernel_rfl)) rfl ?_
      rw [hv.out, hu.out, ← ext_take]
      exact ⟨rfl, ((Turns.refl [] w).alloc _).alloc _⟩

set_option maxRecDepth 100000 in
set_option maxHeartbeats 4000000 in
theorem Good5_any (l : List Val) (A : Option Addr) (n c B : Nat) (w : World) (hf : ∀ x ∈ l, x.fits) (hs : Sl w B 3 (.slice A n c) n (valCells l)) (hB : B ≤ w.heap.size) (hl : l.length ≤ 1000) :
    Calls Try.prog 15 #[.slice A n c] w fun e w' => ∃ A' c', e = .returned (.slice A' l.length c') ∧ w'.ownsRow w.heap.size 43 3 (.slice A' l.length c') l.length (valCells (l.map gval)) ∧ Turns [] w w' := by
  obtain ⟨rfl, hm⟩ := sl_vals hs
  unfold maxLen at hm
  have HS := Lib.hid hs
  clear hs
  go_enter Try.func15, Try.ntmps15
  go_wp2_with fail
  go_loopw [3, 4] (fun u i wr => ∃ (k : Nat) (A' : Option Addr) (c' : Nat), k ≤ l.length ∧ i = .int .i64 k ∧ u = .slice A' k c' ∧ wr.ownsRow w.heap.size 43 3 (.slice A' k c') k (valCells ((l.take k).map gval)) ∧ Turns [] w wr) (fun _ i _ => l.length - (intOf i).toNat)
  case atStart => exact ⟨0, none, 0, by omega, rfl, rfl, World.ownsRow_nil _ _ _ _, Turns.refl _ _⟩
  case round =>
    obtain ⟨k, A', c', hk, rfl, rfl, o0, tx⟩ := hrel
    by_cases hlt : k < l.length
    · have hki : (k : Int) < (l.length : Int) := by omega
      obtain ⟨b, off, rfl, rg⟩ := val_range HS.out k hlt
      have r1 := rangeV tx rg
      have hfx := hf _ (List.getElem_mem hlt)
      have hst : (l.take (k + 1)).map gval = (l.take k).map gval ++ [gval l[k]] := by rw [List.take_succ_eq_append_getElem hlt, List.map_append]; rfl
      have hlk : ((l.take k).map gval).length = k := by simp; omega
      obtain ⟨⟨k1, n1, s1⟩, hc1⟩ : ∃ c, c = l[k] := ⟨_, rfl⟩
      rw [← hc1] at hst r1 hfx
      replace r1 : wr.rangeAt b (off + k * 3) [.int .i64 k1, .int .i64 n1, .string s1] := r1
      have hz1 := size_val k1 n1 s1
      have G4 := Lib.hid (Good4_any ⟨k1, n1, s1⟩ wr hfx)
      have HST := Lib.hid hst
      have HO := Lib.hid (And.intro o0 (And.intro tx hlk))
      clear hc1 rg tx hfx o0 hst hlk
      go_wp2_with (first
        | (refine wpList_load_mid rfl 43 (.tmp 14) rfl b (off + k * 3) rfl _ _ r1 Try.underlying43 rfl hz1 ?_)
        | fail)
      refine G4.out.mono ?_
      rintro e x2 ⟨rfl, t2⟩
      obtain ⟨o0, tx, hlk⟩ := HO.out
      generalize (l.take k).map gval = pre at o0 hlk HST
      subst hlk
      have o0 := own_v0 o0 t2
      have tx := tx.trans t2 (by simp)
      obtain ⟨rv, hrv⟩ : ∃ rv, rv = gval ⟨k1, n1, s1⟩ := ⟨_, rfl⟩
      rw [← hrv] at HST ⊢
      clear hrv
      obtain ⟨v7, y5, hr7, o7, t7, b7, -⟩ := val_append rv o0 tx.size (by omega) 31
      obtain ⟨A7, c7, rfl⟩ := own_formV o7
      have tz := tx.trans t7 (by intro x hx; have := b7 _ hx; exact .inr (by omega))
      have HF := Lib.hid (And.intro (show y5.ownsRow w.heap.size 43 3 (.slice A7 (pre.length + 1) c7) (pre.length + 1) (valCells ((l.take (pre.length + 1)).map gval)) by rw [HST.out]; exact o7) tz)
      clear o7 t7 b7 tz o0 tx t2 G4 r1 HO
      go_wp2_with (at_builtin; refine wpList_append_at rfl (.tmp 11) (.tmp 17) rfl hr7 rfl rfl ?_)
      go_roundw
      case rel => exact ⟨pre.length + 1, A7, c7, by omega, by go_num, rfl, HF.out.1, HF.out.2⟩
      case measure => (simp [intOf] <;> omega)
    · obtain rfl : k = l.length := by omega
      rw [List.take_length] at o0
      have HF := Lib.hid (And.intro o0 tx)
      clear o0 tx
      go_wp2_with fail
      go_ret
      exact ⟨A', c', rfl, HF.out.1, HF.out.2⟩

theorem five_none : rowBytes [] = [0] := by decide
theorem five_zero : rowRes [0] = ([], 0) := by
  have h := row_good [] (by simp) (by simp)
  rwa [five_none] at h
end Go.Proofs.Ytoahnhphfabajaa
