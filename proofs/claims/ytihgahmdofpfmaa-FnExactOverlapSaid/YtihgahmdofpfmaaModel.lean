/-
  The program's data as Lean has them, and what its functions compute: no program is in sight here.
-/
import Derived.Test.YtihgahmdofpfmaaDraw
namespace Go.Proofs.Ytihgahmdofpfmaa
open Go.RowKit

structure BoxM where
  w : Int
  d : Int
  h : Int
  g : Int
def BoxM.cells (b : BoxM) : List Value := [.int .i64 b.w, .int .i64 b.d, .int .i64 b.h, .int .i64 b.g]
def BoxM.val (b : BoxM) : Value := .agg b.cells.toArray
structure SpotM where
  p : Int
  x : Int
  y : Int
  z : Int
def SpotM.cells (b : SpotM) : List Value := [.int .i64 b.p, .int .i64 b.x, .int .i64 b.y, .int .i64 b.z]
def SpotM.val (b : SpotM) : Value := .agg b.cells.toArray
structure PalletM where
  w : Int
  d : Int
  h : Int
  g : Int
def PalletM.cells (b : PalletM) : List Value := [.int .i64 b.w, .int .i64 b.d, .int .i64 b.h, .int .i64 b.g]
def PalletM.val (b : PalletM) : Value := .agg b.cells.toArray
def icell (z : Int) : List Value := [.int .i64 z]

theorem foldl_take_succ {α β : Type} {l : List α} {k : Nat} {x : α} (h : l[k]? = some x) (f : β → α → β) (a : β) : (l.take (k + 1)).foldl f a = f ((l.take k).foldl f a) x := by
  rw [List.take_add_one, h]; simp
theorem take_all {α : Type} {l : List α} {k : Nat} (h : ¬ k < l.length) : l.take k = l := List.take_of_length_le (by omega)
theorem get_of_lt {α : Type} {l : List α} {k : Nat} (h : k < l.length) : ∃ x, l[k]? = some x := ⟨l[k], List.getElem?_eq_getElem h⟩
theorem get_map {α : Type} {l : List α} {k : Nat} {x : α} (h : l[k]? = some x) (f : α → List Value) : (l.map f)[k]? = some (f x) := by rw [List.getElem?_map, h]; rfl
theorem Rd.le_map {w : World} {v : Value} {s : Nat} {α : Type} {l : List α} {f : α → List Value} (h : Rd w v s (l.map f)) : l.length ≤ 9223372036854775807 := by
  have := h.le; simpa [maxLen] using this

def inB (n lo hi : Int) : Bool := decide (lo ≤ n) && decide (n ≤ hi)
def volM (w h d : Int) : Int := if inB w 0 2000 && inB h 0 2000 && inB d 0 2000 then IntKind.i64.wrap (IntKind.i64.wrap (w * h) * d) else 0
def palletOkM (p : PalletM) : Bool := inB p.w 1 2000 && inB p.d 1 2000 && inB p.h 1 2000 && inB p.g 1 100000
def placedM (b : BoxM) (s : SpotM) : Bool := inB b.w 0 2000 && inB b.d 0 2000 && inB b.h 0 2000 && inB s.x 0 2000 && inB s.y 0 2000 && inB s.z 0 2000
def crossM (a long b other : Int) : Bool := decide (a < IntKind.i64.wrap (b + other)) && decide (b < IntKind.i64.wrap (a + long))
def overlapM (a : BoxM) (s : SpotM) (b : BoxM) (t : SpotM) : Bool :=
  placedM a s && placedM b t && decide (s.p = t.p) && crossM s.x a.w t.x b.w && crossM s.y a.d t.y b.d && crossM s.z a.h t.z b.h
def withinM (p : PalletM) (b : BoxM) (s : SpotM) : Bool :=
  inB s.x 0 2000 && inB s.y 0 2000 && inB s.z 0 2000 && inB b.w 1 2000 && inB b.d 1 2000 && inB b.h 1 2000 &&
  decide (IntKind.i64.wrap (s.x + b.w) ≤ p.w) && decide (IntKind.i64.wrap (s.y + b.d) ≤ p.d) && decide (IntKind.i64.wrap (s.z + b.h) ≤ p.h)
theorem withinM_eq (p : PalletM) (b : BoxM) (s : SpotM) : withinM p b s = (placedM b s && decide (b.w > 0) && decide (b.d > 0) && decide (b.h > 0) &&
    decide (IntKind.i64.wrap (s.x + b.w) ≤ p.w) && decide (IntKind.i64.wrap (s.y + b.d) ≤ p.d) && decide (IntKind.i64.wrap (s.z + b.h) ≤ p.h)) := by
  have h : ∀ n : Int, inB n 1 2000 = (inB n 0 2000 && decide (n > 0)) := fun n => by
    rw [Bool.eq_iff_iff]; simp [inB]; omega
  rw [Bool.eq_iff_iff]
  simp only [withinM, placedM, h, Bool.and_eq_true]
  constructor
  · rintro ⟨⟨⟨⟨⟨⟨⟨⟨a, b⟩, c⟩, d, d'⟩, e, e'⟩, f, f'⟩, g⟩, i⟩, j⟩
    exact ⟨⟨⟨⟨⟨⟨⟨⟨⟨⟨⟨d, e⟩, f⟩, a⟩, b⟩, c⟩, d'⟩, e'⟩, f'⟩, g⟩, i⟩, j⟩
  · rintro ⟨⟨⟨⟨⟨⟨⟨⟨⟨⟨⟨d, e⟩, f⟩, a⟩, b⟩, c⟩, d'⟩, e'⟩, f'⟩, g⟩, i⟩, j⟩
    exact ⟨⟨⟨⟨⟨⟨⟨⟨a, b⟩, c⟩, d, d'⟩, e, e'⟩, f, f'⟩, g⟩, i⟩, j⟩
def areaM (l : List BoxM) : Int := l.foldl (fun n b => IntKind.i64.wrap (n + volM b.w 1 b.d)) 0
end Go.Proofs.Ytihgahmdofpfmaa
