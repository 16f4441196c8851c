/-
  The program's data as Lean has them, and what its functions compute: no program is in sight here.
-/
import Derived.Test.YtihgahmdofpfmaaDraw
namespace Go.Proofs.Ytihgahmdofpfmaa
open Go.RowKit

structure BoxM where
  w : Int
  d : Int
  h : Int
  g : Int
deriving DecidableEq
def BoxM.cells (b : BoxM) : List Value := [.int .i64 b.w, .int .i64 b.d, .int .i64 b.h, .int .i64 b.g]
def BoxM.val (b : BoxM) : Value := .agg b.cells.toArray
structure SpotM where
  p : Int
  x : Int
  y : Int
  z : Int
deriving DecidableEq
def SpotM.cells (b : SpotM) : List Value := [.int .i64 b.p, .int .i64 b.x, .int .i64 b.y, .int .i64 b.z]
def SpotM.val (b : SpotM) : Value := .agg b.cells.toArray
structure PalletM where
  w : Int
  d : Int
  h : Int
  g : Int
deriving DecidableEq
def PalletM.cells (b : PalletM) : List Value := [.int .i64 b.w, .int .i64 b.d, .int .i64 b.h, .int .i64 b.g]
def PalletM.val (b : PalletM) : Value := .agg b.cells.toArray
def icell (z : Int) : List Value := [.int .i64 z]

theorem foldl_take_succ {α β : Type} {l : List α} {k : Nat} {x : α} (h : l[k]? = some x) (f : β → α → β) (a : β) : (l.take (k + 1)).foldl f a = f ((l.take k).foldl f a) x := by
  rw [List.take_add_one, h]; simp
theorem take_all {α : Type} {l : List α} {k : Nat} (h : ¬ k < l.length) : l.take k = l := List.take_of_length_le (by omega)
theorem get_of_lt {α : Type} {l : List α} {k : Nat} (h : k < l.length) : ∃ x, l[k]? = some x := ⟨l[k], List.getElem?_eq_getElem h⟩
theorem get_map {α : Type} {l : List α} {k : Nat} {x : α} (h : l[k]? = some x) (f : α → List Value) : (l.map f)[k]? = some (f x) := by rw [List.getElem?_map, h]; rfl
theorem Rd.le_map {w : World} {v : Value} {s : Nat} {α : Type} {l : List α} {f : α → List Value} (h : Rd w v s (l.map f)) : l.length ≤ 9223372036854775807 := by
  have := h.le; simpa [maxLen] using this

/-- A row that is being filled: the first k elements are those of es. -/
def fillTo (es : List (List Value)) (z : List Value) (k : Nat) : List (List Value) := es.take k ++ List.replicate (es.length - k) z
theorem fillTo_get {es : List (List Value)} {z : List Value} {k : Nat} (h : k < es.length) : (fillTo es z k)[k]? = some z := by
  have h1 : (es.take k).length = k := by rw [List.length_take]; omega
  rw [fillTo, List.getElem?_append_right (by omega), h1, Nat.sub_self, List.getElem?_replicate, if_pos (by omega)]
theorem fillTo_set {es : List (List Value)} {z e : List Value} {k : Nat} (h : es[k]? = some e) : (fillTo es z k).set k e = fillTo es z (k + 1) := by
  have hk : k < es.length := by
    rcases Nat.lt_or_ge k es.length with h1 | h1
    · exact h1
    · rw [List.getElem?_eq_none h1] at h; cases h
  apply List.ext_getElem?
  intro j
  rw [List.getElem?_set]
  simp only [fillTo, List.getElem?_append, List.length_take, List.length_append, List.length_replicate]
  by_cases h1 : k = j
  · subst h1
    rw [if_pos rfl, if_pos (by omega), if_pos (by omega), List.getElem?_take, if_pos (by omega), h]
  · rw [if_neg h1]
    by_cases h2 : j < k
    · rw [if_pos (by omega), if_pos (by omega), List.getElem?_take, List.getElem?_take, if_pos h2, if_pos (by omega)]
    · rw [if_neg (by omega), if_neg (by omega), List.getElem?_replicate, List.getElem?_replicate]
      by_cases h3 : j < es.length
      · rw [if_pos (by omega), if_pos (by omega)]
      · rw [if_neg (by omega), if_neg (by omega)]
theorem fillTo_all {es : List (List Value)} {z : List Value} {k : Nat} (h : ¬ k < es.length) : fillTo es z k = es := by
  rw [fillTo, List.take_of_length_le (by omega), show es.length - k = 0 by omega]; simp
theorem eqS_len {α : Type} [DecidableEq α] {xs bs : List α} {f : α → List Value} (h : ¬ ((xs.map f).length : Int) = ((bs.map f).length : Int)) : Value.bool false = .bool (decide (xs = bs)) := by
  rw [decide_eq_false]; rintro rfl; exact h rfl
theorem eqS_elt {α : Type} [DecidableEq α] {xs bs : List α} {k : Nat} {a b : α} (ha : xs[k]? = some a) (hb : bs[k]? = some b) (h : (!decide (a = b)) = true) : Value.bool false = .bool (decide (xs = bs)) := by
  rw [decide_eq_false]; rintro rfl; rw [ha] at hb; cases hb; simp at h
theorem eqS_next {α : Type} [DecidableEq α] {xs bs : List α} {k : Nat} {a b : α} (h0 : xs.take k = bs.take k) (ha : xs[k]? = some a) (hb : bs[k]? = some b) (h : (!decide (a = b)) = false) : xs.take (k + 1) = bs.take (k + 1) := by
  rw [List.take_add_one, List.take_add_one, h0, ha, hb]; simp at h; rw [h]
theorem eqS_all {α : Type} [DecidableEq α] {xs bs : List α} {k : Nat} (h0 : xs.take k = bs.take k) (hl : xs.length = bs.length) (h : ¬ k < xs.length) : Value.bool true = .bool (decide (xs = bs)) := by
  rw [List.take_of_length_le (by omega), List.take_of_length_le (by omega)] at h0; rw [decide_eq_true h0]
def szM (n : Nat) (left : Int) : Int := max (left - n) (-1)

def inB (n lo hi : Int) : Bool := decide (lo ≤ n) && decide (n ≤ hi)
def volM (w h d : Int) : Int := if inB w 0 2000 && inB h 0 2000 && inB d 0 2000 then IntKind.i64.wrap (IntKind.i64.wrap (w * h) * d) else 0
def palletOkM (p : PalletM) : Bool := inB p.w 1 2000 && inB p.d 1 2000 && inB p.h 1 2000 && inB p.g 1 100000
def placedM (b : BoxM) (s : SpotM) : Bool := inB b.w 0 2000 && inB b.d 0 2000 && inB b.h 0 2000 && inB s.x 0 2000 && inB s.y 0 2000 && inB s.z 0 2000
def crossM (a long b other : Int) : Bool := decide (a < IntKind.i64.wrap (b + other)) && decide (b < IntKind.i64.wrap (a + long))
def overlapM (a : BoxM) (s : SpotM) (b : BoxM) (t : SpotM) : Bool :=
  placedM a s && placedM b t && decide (s.p = t.p) && crossM s.x a.w t.x b.w && crossM s.y a.d t.y b.d && crossM s.z a.h t.z b.h
def withinM (p : PalletM) (b : BoxM) (s : SpotM) : Bool :=
  inB s.x 0 2000 && inB s.y 0 2000 && inB s.z 0 2000 && inB b.w 1 2000 && inB b.d 1 2000 && inB b.h 1 2000 &&
  decide (IntKind.i64.wrap (s.x + b.w) ≤ p.w) && decide (IntKind.i64.wrap (s.y + b.d) ≤ p.d) && decide (IntKind.i64.wrap (s.z + b.h) ≤ p.h)
theorem withinM_eq (p : PalletM) (b : BoxM) (s : SpotM) : withinM p b s = (placedM b s && decide (b.w > 0) && decide (b.d > 0) && decide (b.h > 0) &&
    decide (IntKind.i64.wrap (s.x + b.w) ≤ p.w) && decide (IntKind.i64.wrap (s.y + b.d) ≤ p.d) && decide (IntKind.i64.wrap (s.z + b.h) ≤ p.h)) := by
  have h : ∀ n : Int, inB n 1 2000 = (inB n 0 2000 && decide (n > 0)) := fun n => by
    rw [Bool.eq_iff_iff]; simp [inB]; omega
  rw [Bool.eq_iff_iff]
  simp only [withinM, placedM, h, Bool.and_eq_true]
  constructor
  · rintro ⟨⟨⟨⟨⟨⟨⟨⟨a, b⟩, c⟩, d, d'⟩, e, e'⟩, f, f'⟩, g⟩, i⟩, j⟩
    exact ⟨⟨⟨⟨⟨⟨⟨⟨⟨⟨⟨d, e⟩, f⟩, a⟩, b⟩, c⟩, d'⟩, e'⟩, f'⟩, g⟩, i⟩, j⟩
  · rintro ⟨⟨⟨⟨⟨⟨⟨⟨⟨⟨⟨d, e⟩, f⟩, a⟩, b⟩, c⟩, d'⟩, e'⟩, f'⟩, g⟩, i⟩, j⟩
    exact ⟨⟨⟨⟨⟨⟨⟨⟨a, b⟩, c⟩, d, d'⟩, e, e'⟩, f, f'⟩, g⟩, i⟩, j⟩
theorem wrap_id {z : Int} (h1 : -9223372036854775808 ≤ z) (h2 : z ≤ 9223372036854775807) : IntKind.i64.wrap z = z := wrap64_id h1 h2
theorem wrap_ge (z : Int) : -9223372036854775808 ≤ IntKind.i64.wrap z ∧ IntKind.i64.wrap z ≤ 9223372036854775807 := by
  simp [IntKind.wrap, IntKind.bits, IntKind.signed]; split <;> omega
theorem wrap_wrap (z : Int) : IntKind.i64.wrap (IntKind.i64.wrap z) = IntKind.i64.wrap z := wrap_id (wrap_ge z).1 (wrap_ge z).2
def areaStep (n : Int) (b : BoxM) : Int := IntKind.i64.wrap (n + volM b.w 1 b.d)
def areaM (l : List BoxM) : Int := l.foldl areaStep 0
theorem areaStep_in {n : Int} {b : BoxM} (h : (inB b.w 0 2000 && inB b.d 0 2000) = true) : areaStep n b = IntKind.i64.wrap (n + IntKind.i64.wrap (b.w * b.d)) := by
  simp only [Bool.and_eq_true] at h
  simp only [areaStep, volM, h.1, h.2, show inB 1 0 2000 = true from rfl, Bool.and_self, if_true, Int.mul_one]
  have : IntKind.i64.wrap b.w = b.w := by
    have := h.1; simp [inB] at this; exact wrap_id (by omega) (by omega)
  rw [this]
theorem areaStep_out {n : Int} {b : BoxM} (hn : IntKind.i64.wrap n = n) (h : (inB b.w 0 2000 && inB b.d 0 2000) = false) : areaStep n b = n := by
  have : volM b.w 1 b.d = 0 := by
    simp only [volM, show inB 1 0 2000 = true from rfl, Bool.and_true]; rw [if_neg (by rw [h]; simp)]
  rw [areaStep, this, Int.add_zero, hn]
theorem wrap_area (l : List BoxM) (k : Nat) : IntKind.i64.wrap (areaM (l.take k)) = areaM (l.take k) := by
  cases k with
  | zero => rfl
  | succ k =>
    cases h : l[k]? with
    | none =>
      have hk : l.length ≤ k := List.getElem?_eq_none_iff.1 h
      rw [List.take_add_one, h]; simp only [Option.toList, List.append_nil]
      exact wrap_area l k
    | some b => rw [areaM, foldl_take_succ h]; exact wrap_wrap _
def palStep (n : Int) (s : SpotM) : Int := if inB s.p 0 999999 then max n (s.p + 1) else n
def palletsM (l : List SpotM) : Int := l.foldl palStep 0
end Go.Proofs.Ytihgahmdofpfmaa
