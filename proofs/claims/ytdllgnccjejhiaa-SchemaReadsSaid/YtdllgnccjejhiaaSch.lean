/- Schemas, in plain lists: names, columns, what is wrong with them. -/
import Derived.Test.YtdllgnccjejhiaaBase
namespace Go.Proofs.Ytdllgnccjejhiaa
open Go.RowKit
set_option linter.unusedVariables false
set_option maxRecDepth 10000

theorem ba_ext {a b : ByteArray} (h : a.data = b.data) : a = b := by cases a; cases b; simp_all
theorem ba_beq (a b : ByteArray) : (a == b) = (a.data == b.data) := by cases a; cases b; rfl
instance : LawfulBEq ByteArray where
  eq_of_beq := fun {a b} h => by rw [ba_beq] at h; exact ba_ext (eq_of_beq h)
  rfl := fun {a} => by rw [ba_beq]; exact beq_self_eq_true a.data
/-- The language's words. -/
def reserved : List ByteArray := [
  ⟨#[97, 110, 100]⟩, ⟨#[98, 101, 103, 105, 110]⟩, ⟨#[98, 111, 111, 108]⟩, ⟨#[98, 121]⟩, ⟨#[99, 111, 109, 109, 105, 116]⟩, ⟨#[99, 111, 117, 110, 116]⟩, ⟨#[99, 114, 101, 97, 116, 101]⟩, ⟨#[100, 101, 108, 101, 116, 101]⟩,
  ⟨#[100, 101, 115, 99]⟩, ⟨#[100, 114, 111, 112]⟩, ⟨#[102, 97, 108, 115, 101]⟩, ⟨#[102, 114, 111, 109]⟩, ⟨#[103, 114, 111, 117, 112]⟩, ⟨#[105, 110, 115, 101, 114, 116]⟩, ⟨#[105, 110, 116]⟩, ⟨#[105, 110, 116, 111]⟩,
  ⟨#[105, 115]⟩, ⟨#[106, 111, 105, 110]⟩, ⟨#[107, 101, 121]⟩, ⟨#[108, 105, 109, 105, 116]⟩, ⟨#[109, 97, 120]⟩, ⟨#[109, 105, 110]⟩, ⟨#[110, 111, 116]⟩, ⟨#[110, 117, 108, 108]⟩,
  ⟨#[111, 110]⟩, ⟨#[111, 110, 108, 121]⟩, ⟨#[111, 114]⟩, ⟨#[111, 114, 100, 101, 114]⟩, ⟨#[112, 114, 105, 109, 97, 114, 121]⟩, ⟨#[114, 111, 108, 108, 98, 97, 99, 107]⟩, ⟨#[115, 97, 118, 101, 112, 111, 105, 110, 116]⟩, ⟨#[115, 101, 108, 101, 99, 116]⟩,
  ⟨#[115, 101, 116]⟩, ⟨#[115, 117, 109]⟩, ⟨#[116, 97, 98, 108, 101]⟩, ⟨#[116, 101, 120, 116]⟩, ⟨#[116, 111]⟩, ⟨#[116, 114, 117, 101]⟩, ⟨#[117, 112, 100, 97, 116, 101]⟩, ⟨#[118, 97, 108, 117, 101, 115]⟩,
  ⟨#[119, 104, 101, 114, 101]⟩]
/-- May this byte stand first in a name; may it stand in one? -/
def low (c : UInt8) : Bool := decide (97 ≤ c.toNat) && decide (c.toNat ≤ 122)
def chOk (c : UInt8) : Bool := low c || (decide (48 ≤ c.toNat) && decide (c.toNat ≤ 57)) || decide (c.toNat = 95)
/-- Is it made like a name? -/
def shapeOk (t : ByteArray) : Bool := decide (1 ≤ t.size) && decide (t.size ≤ 12) && low (t.data.toList.getD 0 0) && t.data.toList.all chOk
/-- Is it one of the language's words? -/
def isWord (t : ByteArray) : Bool := reserved.contains t
/-- Is it a name? -/
def nameOk (t : ByteArray) : Bool := shapeOk t && !(isWord t)

/-- A column; a table's shape. -/
structure Col where
  name : ByteArray
  kind : Int
  null : Bool
structure Sch where
  name : ByteArray
  cols : List Col
  key : Int
  only : Bool
def Col.cells (c : Col) : List Value := [.string c.name, .int .i64 c.kind, .bool c.null]
def colCells (l : List Col) : List Value := l.flatMap Col.cells
theorem colCells_length (l : List Col) : (colCells l).length = l.length * 3 := by
  induction l with
  | nil => rfl
  | cons c l ih => simp [colCells, Col.cells] at *; omega
theorem colCells_get (l : List Col) (k j : Nat) (hk : k < l.length) (hj : j < 3) : (colCells l)[k * 3 + j]? = (l[k].cells)[j]? := by
  induction l generalizing k with
  | nil => simp at hk
  | cons c l ih =>
    rw [colCells, List.flatMap_cons]
    cases k with
    | zero => rw [Nat.zero_mul, Nat.zero_add, List.getElem?_append_left (by simpa [Col.cells] using hj)]; rfl
    | succ k =>
      rw [List.getElem?_append_right (by simp [Col.cells]; omega), show (k + 1) * 3 + j - c.cells.length = k * 3 + j by simp [Col.cells]; omega]
      exact ih k (by simpa using hk)
/-- The first column of a name: its place; whether there is one. -/
def findCol (t : ByteArray) : List Col → Nat → Option Nat
  | [], _ => none
  | c :: cs, i => if c.name = t then some i else findCol t cs (i + 1)
/-- What is wrong with columns, those ahead of them given. -/
def colsCheck : List Col → List Col → Int
  | _, [] => 0
  | pre, c :: cs => if nameOk c.name = false ∨ (∃ d ∈ pre, d.name = c.name) then 12 else if c.kind < 1 ∨ 3 < c.kind then 3 else colsCheck (pre ++ [c]) cs
/-- What is wrong with a key. -/
def keyCheck (s : Sch) : Int := if s.key < 0 ∨ (s.cols.length : Int) ≤ s.key then 1 else if (s.cols.getD s.key.toNat ⟨⟨#[]⟩, 0, false⟩).null = true then 13 else 0
/-- What is wrong with a schema. -/
def checkS (s : Sch) : Int := if nameOk s.name = false then 12 else if s.cols.length < 1 ∨ 6 < s.cols.length then 4 else if colsCheck [] s.cols ≠ 0 then colsCheck [] s.cols else keyCheck s
end Go.Proofs.Ytdllgnccjejhiaa
