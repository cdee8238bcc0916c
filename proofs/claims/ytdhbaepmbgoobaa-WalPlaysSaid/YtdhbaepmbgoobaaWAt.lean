/- The log's operations beside kept blocks. -/
import Derived.Test.YtdhbaepmbgoobaaWLog
namespace Go.Proofs.Ytdhbaepmbgoobaa
open Go.RowKit
set_option linter.unusedVariables false
set_option maxRecDepth 10000
set_option linter.unusedSimpArgs false
set_option linter.unnecessarySimpa false

/-- A disk that is synced, its power stays. -/
structure Calm (st : DS) : Prop where
  left : st.left = 0
  dead : st.dead = false
  synced : st.synced = st.now
  writes : st.writes = []
/-- What Open leaves where the log is good. -/
def OpenOk (w0 w : World) (B g p : Nat) (st : DS) (X : List Nat) (size count : Int) (recs : List (List UInt8)) (e : Ending) (w' : World) : Prop :=
  ∃ gl A n c, e = .returned (.tuple #[.pointer (some ⟨gl, 0, none⟩), .slice A n c, .int .i64 0]) ∧ gl ∉ X ∧ At w0 w' B g p st (gl :: X) ∧ Same X w w' ∧ Blk w' gl (LG g size count) 86 ∧ SlsF w.heap.size w' (.slice A n c) n recs
theorem Open_at {w0 w : World} {B g p : Nat} {st : DS} {X : List Nat} (h : At w0 w B g p st X) (hd : st.dead = false) (hl : st.look.bad = false) :
    Calls Try.prog 13 #[.pointer (some ⟨g, 0, none⟩)] w (OpenOk w0 w B g p st X st.look.size st.look.count st.look.recs) := by
  obtain ⟨D, rfl, hd', hx⟩ := h.ex
  refine (Open_any w B D p st hd').mono fun e w' ho => ?_
  obtain ⟨gl, A, n, c, he, hb, hge, hs⟩ := ho.good hd hl
  exact ⟨gl, A, n, c, he, fun hm => by have := (h.side gl hm).2; omega, h.more ho.turns hge hb.lt, h.same ho.turns, hb, hs⟩
theorem Open_img {w0 w : World} {B g p size : Nat} {st : DS} {X : List Nat} {recs : List (List UInt8)} (h : At w0 w B g p st X) (hd : st.dead = false) (hI : Img st.now p size recs) :
    Calls Try.prog 13 #[.pointer (some ⟨g, 0, none⟩)] w (OpenOk w0 w B g p st X size recs.length recs) := by
  have hl := hI.look h.pages.2
  have := Open_at h hd (by rw [hl])
  rw [hl] at this
  exact this
theorem Open_no {w0 w : World} {B g p : Nat} {st : DS} {X : List Nat} (h : At w0 w B g p st X) (hd : st.dead = false) (hl : st.look.bad = true) :
    Calls Try.prog 13 #[.pointer (some ⟨g, 0, none⟩)] w fun e w' => e = .returned (.tuple #[.pointer none, .slice none 0 0, .int .i64 10]) ∧ At w0 w' B g p st X ∧ Same X w w' := by
  obtain ⟨D, rfl, hd', hx⟩ := h.ex
  refine (Open_any w B D p st hd').mono fun e w' ho => ?_
  exact ⟨ho.bad hd hl, h.turn ho.turns (by simp), h.same ho.turns⟩
theorem Open_dead {w0 w : World} {B g p : Nat} {st : DS} {X : List Nat} (h : At w0 w B g p st X) (hd : st.dead = true) :
    Calls Try.prog 13 #[.pointer (some ⟨g, 0, none⟩)] w fun e w' => e = .returned (.tuple #[.pointer none, .slice none 0 0, .int .i64 15]) ∧ At w0 w' B g p st X ∧ Same X w w' := by
  obtain ⟨D, rfl, hd', hx⟩ := h.ex
  refine (Open_any w B D p st hd').mono fun e w' ho => ?_
  exact ⟨ho.gone hd, h.turn ho.turns (by simp), h.same ho.turns⟩

set_option maxRecDepth 100000 in
set_option maxHeartbeats 8000000 in
theorem Append_long {w0 w : World} {B g p : Nat} {st : DS} {X : List Nat} (h : At w0 w B g p st X) (gl : Nat) (size ct : Int) (hb : Blk w gl (LG g size ct) 86)
    (A : Option Addr) (c n : Nat) (hlen : 65536 < n) (hmax : n ≤ 1000000000) :
    Calls Try.prog 14 #[.pointer (some ⟨gl, 0, none⟩), .slice A n c] w fun e w' => e = .returned (.int .i64 5) ∧ w = w' := by
  have hp := h.pages
  have LD := Lib.hid (IntLoad_any ⟨gl, 1, none⟩ size w (by have := hb.cell 1; simpa [LG] using this))
  have PG := Lib.hid (Pages_at h)
  have c0 := hb.cell 0
  simp only [LG, List.getElem?_cons_zero] at c0
  have hpb : (p : Int) ≤ 4096 ∧ 2 ≤ (p : Int) := by omega
  have h65 : 65536 < (n : Int) := by omega
  clear h hb
  go_enter Try.func14, Try.ntmps14
  go_wp2_with fail
  refine PG.out.mono ?_
  rintro e ww ⟨rfl, rfl⟩
  go_wp2_with fail
  refine LD.out.mono ?_
  rintro e ww ⟨rfl, rfl⟩
  clear PG LD
  go_wp2_with fail
  go_ret
  exact ⟨rfl, rfl⟩
set_option maxRecDepth 100000 in
set_option maxHeartbeats 8000000 in
theorem Append_full {w0 w : World} {B g p : Nat} {st : DS} {X : List Nat} (h : At w0 w B g p st X) (gl size : Nat) (ct : Int) (hb : Blk w gl (LG g size ct) 86)
    (A : Option Addr) (c n : Nat) (hlen : n ≤ 65536) (hs : size ≤ (p - 1) * 64) (hroom : (p - 1) * 64 < size + 8 + n) :
    Calls Try.prog 14 #[.pointer (some ⟨gl, 0, none⟩), .slice A n c] w fun e w' => e = .returned (.int .i64 14) ∧ w = w' := by
  have hp := h.pages
  have LD := Lib.hid (IntLoad_any ⟨gl, 1, none⟩ size w (by have := hb.cell 1; simpa [LG] using this))
  have PG := Lib.hid (Pages_at h)
  have c0 := hb.cell 0
  simp only [LG, List.getElem?_cons_zero] at c0
  have hpb : (p : Int) ≤ 4096 ∧ 2 ≤ (p : Int) := by omega
  have h65 : (n : Int) ≤ 65536 := by omega
  have hfr : ((p : Int) - 1) * 64 - (size : Int) < (n : Int) + 8 := by omega
  have hsz : (size : Int) ≤ ((p : Int) - 1) * 64 := by omega
  clear h hb hs hroom
  go_enter Try.func14, Try.ntmps14
  go_wp2_with fail
  refine PG.out.mono ?_
  rintro e ww ⟨rfl, rfl⟩
  go_wp2_with fail
  refine LD.out.mono ?_
  rintro e ww ⟨rfl, rfl⟩
  clear PG LD
  go_wp2_with fail
  go_ret
  exact ⟨rfl, rfl⟩
/-- What an append leaves on a disk whose power stays: the log, grown. -/
structure Grew (w0 w : World) (B g p : Nat) (gl : Nat) (Y : List Nat) (size : Nat) (recs : List (List UInt8)) (bs : List UInt8) (e : Ending) (w' : World) : Prop where
  code : e = .returned (.int .i64 0)
  ex : ∃ st : DS, At w0 w' B g p st (gl :: Y) ∧ Calm st ∧ Img st.now p (size + 8 + bs.length) (recs ++ [bs])
  same : Same Y w w'
  log : Blk w' gl (LG g ((size + 8 + bs.length : Nat) : Int) ((recs.length + 1 : Nat) : Int)) 86
theorem Append_calm {w0 w : World} {B g p : Nat} {st : DS} {gl : Nat} {Y : List Nat} (h : At w0 w B g p st (gl :: Y)) (hg : gl ∉ Y) (size : Nat) (recs : List (List UInt8)) (hb : Blk w gl (LG g size recs.length) 86)
    (A : Option Addr) (c : Nat) (bs : List UInt8) (hs : Sl w w.heap.size 1 (.slice A bs.length c) bs.length (bvs bs)) (hc : Calm st) (hI : Img st.now p size recs) (hlen : bs.length ≤ 65536) (hroom : size + 8 + bs.length ≤ (p - 1) * 64) :
    Calls Try.prog 14 #[.pointer (some ⟨gl, 0, none⟩), .slice A bs.length c] w (Grew w0 w B g p gl Y size recs bs) := by
  have hp := h.pages
  have hle := cutL_len recs.length (recsBytes recs)
  rw [cut_whole recs (fun r hr => by have := hI.ok r hr; omega)] at hle
  simp only at hle
  have hsz := hI.sz
  refine (Append_any h hg size recs.length hb A c bs hs hc.dead hlen hroom (by omega) (by rw [hc.writes]; simp)).mono fun e w' ho => ?_
  rcases (append_out st p size recs bs hI hc.synced hc.writes hc.dead (by omega) (by omega) hlen).ex with ⟨k1, k2, k3, k4, k5, k6⟩ | ⟨k1, k2, _⟩
  · have hlog := ho.log
    rw [k1, if_pos rfl] at hlog
    exact ⟨by rw [ho.code, k1], ⟨_, ho.at_, ⟨k6 hc.left, k2, k4, k3⟩, k5⟩, ho.same, hlog⟩
  · exact absurd hc.left k2
theorem calm_fresh (p : Nat) : Calm (fresh p) := ⟨rfl, rfl, rfl, rfl⟩
end Go.Proofs.Ytdhbaepmbgoobaa
