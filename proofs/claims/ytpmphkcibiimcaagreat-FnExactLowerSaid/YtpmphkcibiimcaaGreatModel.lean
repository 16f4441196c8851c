/-
  The program's data as Lean has them, and what its functions compute: no program is in sight here.
-/
import Derived.Test.YtpmphkcibiimcaaGreatDraw
namespace Go.Proofs.YtpmphkcibiimcaaGreat
open Go.RowKit

structure BoxM where
  w : Int
  d : Int
  h : Int
  g : Int
deriving DecidableEq
def BoxM.cells (b : BoxM) : List Value := [.int .i64 b.w, .int .i64 b.d, .int .i64 b.h, .int .i64 b.g]
def BoxM.val (b : BoxM) : Value := .agg b.cells.toArray
structure SpotM where
  p : Int
  x : Int
  y : Int
  z : Int
deriving DecidableEq
def SpotM.cells (b : SpotM) : List Value := [.int .i64 b.p, .int .i64 b.x, .int .i64 b.y, .int .i64 b.z]
def SpotM.val (b : SpotM) : Value := .agg b.cells.toArray
structure PalletM where
  w : Int
  d : Int
  h : Int
  g : Int
deriving DecidableEq
def PalletM.cells (b : PalletM) : List Value := [.int .i64 b.w, .int .i64 b.d, .int .i64 b.h, .int .i64 b.g]
def PalletM.val (b : PalletM) : Value := .agg b.cells.toArray
def icell (z : Int) : List Value := [.int .i64 z]

theorem foldl_take_succ {α β : Type} {l : List α} {k : Nat} {x : α} (h : l[k]? = some x) (f : β → α → β) (a : β) : (l.take (k + 1)).foldl f a = f ((l.take k).foldl f a) x := by
  rw [List.take_add_one, h]; simp
theorem take_all {α : Type} {l : List α} {k : Nat} (h : ¬ k < l.length) : l.take k = l := List.take_of_length_le (by omega)
theorem get_of_lt {α : Type} {l : List α} {k : Nat} (h : k < l.length) : ∃ x, l[k]? = some x := ⟨l[k], List.getElem?_eq_getElem h⟩
theorem get_map {α : Type} {l : List α} {k : Nat} {x : α} (h : l[k]? = some x) (f : α → List Value) : (l.map f)[k]? = some (f x) := by rw [List.getElem?_map, h]; rfl
theorem Rd.le_map {w : World} {v : Value} {s : Nat} {α : Type} {l : List α} {f : α → List Value} (h : Rd w v s (l.map f)) : l.length ≤ 9223372036854775807 := by
  have := h.le; simpa [maxLen] using this

/-- A row that is being filled: the first k elements are those of es. -/
def fillTo (es : List (List Value)) (z : List Value) (k : Nat) : List (List Value) := es.take k ++ List.replicate (es.length - k) z
theorem fillTo_get {es : List (List Value)} {z : List Value} {k : Nat} (h : k < es.length) : (fillTo es z k)[k]? = some z := by
  have h1 : (es.take k).length = k := by rw [List.length_take]; omega
  rw [fillTo, List.getElem?_append_right (by omega), h1, Nat.sub_self, List.getElem?_replicate, if_pos (by omega)]
theorem fillTo_set {es : List (List Value)} {z e : List Value} {k : Nat} (h : es[k]? = some e) : (fillTo es z k).set k e = fillTo es z (k + 1) := by
  have hk : k < es.length := by
    rcases Nat.lt_or_ge k es.length with h1 | h1
    · exact h1
    · rw [List.getElem?_eq_none h1] at h; cases h
  apply List.ext_getElem?
  intro j
  rw [List.getElem?_set]
  simp only [fillTo, List.getElem?_append, List.length_take, List.length_append, List.length_replicate]
  by_cases h1 : k = j
  · subst h1
    rw [if_pos rfl, if_pos (by omega), if_pos (by omega), List.getElem?_take, if_pos (by omega), h]
  · rw [if_neg h1]
    by_cases h2 : j < k
    · rw [if_pos (by omega), if_pos (by omega), List.getElem?_take, List.getElem?_take, if_pos h2, if_pos (by omega)]
    · rw [if_neg (by omega), if_neg (by omega), List.getElem?_replicate, List.getElem?_replicate]
      by_cases h3 : j < es.length
      · rw [if_pos (by omega), if_pos (by omega)]
      · rw [if_neg (by omega), if_neg (by omega)]
theorem fillTo_all {es : List (List Value)} {z : List Value} {k : Nat} (h : ¬ k < es.length) : fillTo es z k = es := by
  rw [fillTo, List.take_of_length_le (by omega), show es.length - k = 0 by omega]; simp
theorem eqS_len {α : Type} [DecidableEq α] {xs bs : List α} {f : α → List Value} (h : ¬ ((xs.map f).length : Int) = ((bs.map f).length : Int)) : Value.bool false = .bool (decide (xs = bs)) := by
  rw [decide_eq_false]; rintro rfl; exact h rfl
theorem eqS_elt {α : Type} [DecidableEq α] {xs bs : List α} {k : Nat} {a b : α} (ha : xs[k]? = some a) (hb : bs[k]? = some b) (h : (!decide (a = b)) = true) : Value.bool false = .bool (decide (xs = bs)) := by
  rw [decide_eq_false]; rintro rfl; rw [ha] at hb; cases hb; simp at h
theorem eqS_next {α : Type} [DecidableEq α] {xs bs : List α} {k : Nat} {a b : α} (h0 : xs.take k = bs.take k) (ha : xs[k]? = some a) (hb : bs[k]? = some b) (h : (!decide (a = b)) = false) : xs.take (k + 1) = bs.take (k + 1) := by
  rw [List.take_add_one, List.take_add_one, h0, ha, hb]; simp at h; rw [h]
theorem eqS_all {α : Type} [DecidableEq α] {xs bs : List α} {k : Nat} (h0 : xs.take k = bs.take k) (hl : xs.length = bs.length) (h : ¬ k < xs.length) : Value.bool true = .bool (decide (xs = bs)) := by
  rw [List.take_of_length_le (by omega), List.take_of_length_le (by omega)] at h0; rw [decide_eq_true h0]
def szM (n : Nat) (left : Int) : Int := max (left - n) (-1)

def inB (n lo hi : Int) : Bool := decide (lo ≤ n) && decide (n ≤ hi)
def volM (w h d : Int) : Int := if inB w 0 2000 && inB h 0 2000 && inB d 0 2000 then IntKind.i64.wrap (IntKind.i64.wrap (w * h) * d) else 0
def palletOkM (p : PalletM) : Bool := inB p.w 1 2000 && inB p.d 1 2000 && inB p.h 1 2000 && inB p.g 1 100000
def placedM (b : BoxM) (s : SpotM) : Bool := inB b.w 0 2000 && inB b.d 0 2000 && inB b.h 0 2000 && inB s.x 0 2000 && inB s.y 0 2000 && inB s.z 0 2000
def crossM (a long b other : Int) : Bool := decide (a < IntKind.i64.wrap (b + other)) && decide (b < IntKind.i64.wrap (a + long))
def overlapM (a : BoxM) (s : SpotM) (b : BoxM) (t : SpotM) : Bool :=
  placedM a s && placedM b t && decide (s.p = t.p) && crossM s.x a.w t.x b.w && crossM s.y a.d t.y b.d && crossM s.z a.h t.z b.h
def withinM (p : PalletM) (b : BoxM) (s : SpotM) : Bool :=
  inB s.x 0 2000 && inB s.y 0 2000 && inB s.z 0 2000 && inB b.w 1 2000 && inB b.d 1 2000 && inB b.h 1 2000 &&
  decide (IntKind.i64.wrap (s.x + b.w) ≤ p.w) && decide (IntKind.i64.wrap (s.y + b.d) ≤ p.d) && decide (IntKind.i64.wrap (s.z + b.h) ≤ p.h)
theorem withinM_eq (p : PalletM) (b : BoxM) (s : SpotM) : withinM p b s = (placedM b s && decide (b.w > 0) && decide (b.d > 0) && decide (b.h > 0) &&
    decide (IntKind.i64.wrap (s.x + b.w) ≤ p.w) && decide (IntKind.i64.wrap (s.y + b.d) ≤ p.d) && decide (IntKind.i64.wrap (s.z + b.h) ≤ p.h)) := by
  have h : ∀ n : Int, inB n 1 2000 = (inB n 0 2000 && decide (n > 0)) := fun n => by
    rw [Bool.eq_iff_iff]; simp [inB]; omega
  rw [Bool.eq_iff_iff]
  simp only [withinM, placedM, h, Bool.and_eq_true]
  constructor
  · rintro ⟨⟨⟨⟨⟨⟨⟨⟨a, b⟩, c⟩, d, d'⟩, e, e'⟩, f, f'⟩, g⟩, i⟩, j⟩
    exact ⟨⟨⟨⟨⟨⟨⟨⟨⟨⟨⟨d, e⟩, f⟩, a⟩, b⟩, c⟩, d'⟩, e'⟩, f'⟩, g⟩, i⟩, j⟩
  · rintro ⟨⟨⟨⟨⟨⟨⟨⟨⟨⟨⟨d, e⟩, f⟩, a⟩, b⟩, c⟩, d'⟩, e'⟩, f'⟩, g⟩, i⟩, j⟩
    exact ⟨⟨⟨⟨⟨⟨⟨⟨a, b⟩, c⟩, d, d'⟩, e, e'⟩, f, f'⟩, g⟩, i⟩, j⟩
theorem wrap_id {z : Int} (h1 : -9223372036854775808 ≤ z) (h2 : z ≤ 9223372036854775807) : IntKind.i64.wrap z = z := wrap64_id h1 h2
theorem wrap_ge (z : Int) : -9223372036854775808 ≤ IntKind.i64.wrap z ∧ IntKind.i64.wrap z ≤ 9223372036854775807 := by
  simp [IntKind.wrap, IntKind.bits, IntKind.signed]; split <;> omega
theorem wrap_wrap (z : Int) : IntKind.i64.wrap (IntKind.i64.wrap z) = IntKind.i64.wrap z := wrap_id (wrap_ge z).1 (wrap_ge z).2
def areaStep (n : Int) (b : BoxM) : Int := IntKind.i64.wrap (n + volM b.w 1 b.d)
def areaM (l : List BoxM) : Int := l.foldl areaStep 0
theorem areaStep_in {n : Int} {b : BoxM} (h : (inB b.w 0 2000 && inB b.d 0 2000) = true) : areaStep n b = IntKind.i64.wrap (n + IntKind.i64.wrap (b.w * b.d)) := by
  simp only [Bool.and_eq_true] at h
  simp only [areaStep, volM, h.1, h.2, show inB 1 0 2000 = true from rfl, Bool.and_self, if_true, Int.mul_one]
  have : IntKind.i64.wrap b.w = b.w := by
    have := h.1; simp [inB] at this; exact wrap_id (by omega) (by omega)
  rw [this]
theorem areaStep_out {n : Int} {b : BoxM} (hn : IntKind.i64.wrap n = n) (h : (inB b.w 0 2000 && inB b.d 0 2000) = false) : areaStep n b = n := by
  have : volM b.w 1 b.d = 0 := by
    simp only [volM, show inB 1 0 2000 = true from rfl, Bool.and_true]; rw [if_neg (by rw [h]; simp)]
  rw [areaStep, this, Int.add_zero, hn]
theorem wrap_area (l : List BoxM) (k : Nat) : IntKind.i64.wrap (areaM (l.take k)) = areaM (l.take k) := by
  cases k with
  | zero => rfl
  | succ k =>
    cases h : l[k]? with
    | none =>
      have hk : l.length ≤ k := List.getElem?_eq_none_iff.1 h
      rw [List.take_add_one, h]; simp only [Option.toList, List.append_nil]
      exact wrap_area l k
    | some b => rw [areaM, foldl_take_succ h]; exact wrap_wrap _
def sumStep (n x : Int) : Int := if inB x (-1000000000) 1000000000 then IntKind.i64.wrap (n + x) else n
def sumM (l : List Int) : Int := l.foldl sumStep 0
def palStep (n : Int) (s : SpotM) : Int := if inB s.p 0 999999 then max n (s.p + 1) else n
def palletsM (l : List SpotM) : Int := l.foldl palStep 0
def boxOkM (p : PalletM) (b : BoxM) : Bool := inB b.w 1 p.w && inB b.d 1 p.d && inB b.h 1 p.h && inB b.g 1 p.g
def boxesOkM (p : PalletM) (l : List BoxM) : Bool := palletOkM p && l.all (boxOkM p)
def heapOkM (p : PalletM) (d h g : Int) : Bool := inB d 1 p.d && inB h 1 p.h && inB g 1 p.g
/-- Where the first is that p holds of; -1 where there is none. -/
def idxM {α : Type} (p : α → Bool) : List α → Int
  | [] => -1
  | x :: r => if p x then 0 else if idxM p r < 0 then -1 else idxM p r + 1
theorem idx_ge {α : Type} (p : α → Bool) : ∀ l : List α, -1 ≤ idxM p l
  | [] => by simp [idxM]
  | x :: r => by have := idx_ge p r; rw [idxM]; split <;> (try split) <;> omega
theorem idx_at {α : Type} {p : α → Bool} : ∀ {l : List α} {k : Nat} {b : α}, (l.take k).any p = false → l[k]? = some b → p b = true → idxM p l = k
  | [], k, b, _, h, _ => by simp at h
  | x :: r, 0, b, _, h, hb => by simp at h; subst h; simp [idxM, hb]
  | x :: r, k + 1, b, h0, h, hb => by
    simp only [List.take_succ_cons, List.any_cons, Bool.or_eq_false_iff] at h0
    simp only [List.getElem?_cons_succ] at h
    have := idx_at h0.2 h hb
    rw [idxM, h0.1, this]; simp; omega
theorem idx_any {α : Type} (p : α → Bool) : ∀ l : List α, decide (idxM p l ≥ 0) = l.any p
  | [] => rfl
  | x :: r => by
    have := idx_any p r
    rw [idxM, List.any_cons, ← this]
    by_cases h : p x = true
    · simp [h]
    · simp only [h, Bool.false_or, if_false]; simp
      by_cases h2 : idxM p r < 0
      · rw [if_pos h2]; omega
      · rw [if_neg h2]; omega
theorem idx_none {α : Type} {p : α → Bool} {l : List α} {k : Nat} (h : (l.take k).any p = false) (hk : ¬ k < l.length) : idxM p l = -1 := by
  rw [List.take_of_length_le (by omega)] at h
  have h1 := idx_any p l
  have h2 := idx_ge p l
  rw [h] at h1
  have := of_decide_eq_false h1
  omega
theorem any_next {α : Type} {p : α → Bool} {l : List α} {k : Nat} {b : α} (h : (l.take k).any p = false) (hb : l[k]? = some b) (hp : p b = false) : (l.take (k + 1)).any p = false := by
  rw [List.take_add_one, hb, List.any_append, h]; simp [hp]
theorem all_next {α : Type} {f : α → Bool} {l : List α} {k : Nat} {b : α} (h : (l.take k).all f = true) (hb : l[k]? = some b) (hp : f b = true) : (l.take (k + 1)).all f = true := by
  rw [List.take_add_one, hb, List.all_append, h]; simp [hp]
theorem all_no {α : Type} {f : α → Bool} {l : List α} {k : Nat} {b : α} (hb : l[k]? = some b) (hp : f b = false) : l.all f = false := by
  rw [Bool.eq_false_iff]; intro h; rw [List.all_eq_true] at h; have := h b (List.mem_of_getElem? hb); rw [hp] at this; cases this
theorem all_end {α : Type} {f : α → Bool} {l : List α} {k : Nat} (h : (l.take k).all f = true) (hk : ¬ k < l.length) : l.all f = true := by rwa [List.take_of_length_le (by omega)] at h
theorem okEnd {α : Type} {q : Bool} {f : α → Bool} {l : List α} {k : Nat} (hq : q = true) (h : (l.take k).all f = true) (hk : ¬ k < l.length) : true = (q && l.all f) := by rw [hq, all_end h hk]; rfl
theorem okNo {α : Type} {q : Bool} {f : α → Bool} {l : List α} {k : Nat} {b : α} (hb : l[k]? = some b) (hp : f b = false) : false = (q && l.all f) := by rw [all_no hb hp, Bool.and_false]
theorem okOut {q r : Bool} (h : (!q) = true) : false = (q && r) := by cases q <;> simp_all
theorem not_any_not {α : Type} (f : α → Bool) (l : List α) : (!(l.any fun b => !f b)) = l.all f := by induction l with
  | nil => rfl
  | cons x r ih => simp [← ih]

/-! ### Tables: lists of things that have a list of numbers each -/
structure ShelfM where
  l : List Int
  w : Int
  d : Int
  h : Int
  g : Int
deriving DecidableEq
def ShelfM.cells (t : ShelfM × Value) : List Value := [t.2, .int .i64 t.1.w, .int .i64 t.1.d, .int .i64 t.1.h, .int .i64 t.1.g]
abbrev ShelfM.z : List Value := [.slice none 0 0, .int .i64 0, .int .i64 0, .int .i64 0, .int .i64 0]
theorem ShelfM.eq_iff (x y : ShelfM) : x = y ↔ (x.l = y.l ∧ x.w = y.w ∧ x.d = y.d ∧ x.h = y.h ∧ x.g = y.g) := by cases x; cases y; simp
structure LayerM where
  l : List Int
  d : Int
  h : Int
  g : Int
deriving DecidableEq
def LayerM.cells (t : LayerM × Value) : List Value := [t.2, .int .i64 t.1.d, .int .i64 t.1.h, .int .i64 t.1.g]
abbrev LayerM.z : List Value := [.slice none 0 0, .int .i64 0, .int .i64 0, .int .i64 0]
theorem LayerM.eq_iff (x y : LayerM) : x = y ↔ (x.l = y.l ∧ x.d = y.d ∧ x.h = y.h ∧ x.g = y.g) := by cases x; cases y; simp
structure LoadM where
  l : List Int
  h : Int
  g : Int
deriving DecidableEq
def LoadM.cells (t : LoadM × Value) : List Value := [t.2, .int .i64 t.1.h, .int .i64 t.1.g]
abbrev LoadM.z : List Value := [.slice none 0 0, .int .i64 0, .int .i64 0]
theorem LoadM.eq_iff (x y : LoadM) : x = y ↔ (x.l = y.l ∧ x.h = y.h ∧ x.g = y.g) := by cases x; cases y; simp
structure CartonM where
  t : Int
  g : Int
  l : List Int
deriving DecidableEq
def CartonM.cells (t : CartonM × Value) : List Value := [.int .i64 t.1.t, .int .i64 t.1.g, t.2]
abbrev CartonM.z : List Value := [.int .i64 0, .int .i64 0, .slice none 0 0]
theorem CartonM.eq_iff (x y : CartonM) : x = y ↔ (x.t = y.t ∧ x.g = y.g ∧ x.l = y.l) := by cases x; cases y; simp

def sub {M : Type} (f : M → List Int) (t : M × Value) : Value × List (List Value) := (t.2, (f t.1).map icell)
/-- The inner lists read as they should. -/
def Subs {M : Type} (w : World) (f : M → List Int) (ts : List (M × Value)) : Prop := ∀ t ∈ ts, Rd w t.2 1 ((f t.1).map icell)
theorem Subs.stays {M : Type} {w0 : World} {H : List Ch} {f : M → List Int} {ts : List (M × Value)} (h : Subs w0 f ts) : ∀ w, HeapOk w0 w H → Subs w f ts := fun w hh t ht => Rd.stays (h t ht) w hh
theorem Subs.owned {M : Type} {w0 : World} {H : List Ch} {f : M → List Int} {ts : List (M × Value)} {T : TypeId} (i : Nat) (hi : H[i]? = some (.grp T 1 (ts.map (sub f)))) : ∀ w, HeapOk w0 w H → Subs w f ts :=
  fun w hh t ht => Rd.grp i hi (v := t.2) (es := (f t.1).map icell) (List.mem_map.2 ⟨t, ht, rfl⟩) w hh
theorem Subs.at {M : Type} {w : World} {f : M → List Int} {ts : List (M × Value)} (h : Subs w f ts) {k : Nat} {t : M × Value} (ht : ts[k]? = some t) : Rd w t.2 1 ((f t.1).map icell) := h t (List.mem_of_getElem? ht)
/-- What a table holds in all. -/
def tot {M : Type} (f : M → List Int) (ts : List (M × Value)) : Nat := ts.length + (ts.map fun t => (f t.1).length).sum
theorem tot_len {M : Type} {f : M → List Int} {ts : List (M × Value)} : ts.length ≤ tot f ts := Nat.le_add_right _ _
theorem tot_take {M : Type} (f : M → List Int) (ts : List (M × Value)) (k : Nat) : ((ts.take k).map fun t => (f t.1).length).sum ≤ (ts.map fun t => (f t.1).length).sum := by
  have h := List.take_append_drop k ts
  have : (ts.map fun t => (f t.1).length).sum = (((ts.take k ++ ts.drop k)).map fun t => (f t.1).length).sum := by rw [h]
  rw [this, List.map_append, List.sum_append]; omega
theorem tot_next {M : Type} (f : M → List Int) {ts : List (M × Value)} {k : Nat} {t : M × Value} (h : ts[k]? = some t) : ((ts.take (k + 1)).map fun t => (f t.1).length).sum = ((ts.take k).map fun t => (f t.1).length).sum + (f t.1).length := by
  rw [List.take_add_one, h]; simp
theorem tot_elt {M : Type} {f : M → List Int} {ts : List (M × Value)} {k : Nat} {t : M × Value} (h : ts[k]? = some t) : (f t.1).length ≤ tot f ts := by
  have h1 := tot_next f h
  have h2 := tot_take f ts (k + 1)
  simp only [tot]; omega
/-- A table that is being filled. -/
def fillUp {α : Type} (c : α → List Value) (z : List Value) (n : Nat) (done : List α) : List (List Value) := done.map c ++ List.replicate (n - done.length) z
theorem fillUp_get {α : Type} {c : α → List Value} {z : List Value} {n : Nat} {done : List α} (h : done.length < n) : (fillUp c z n done)[done.length]? = some z := by
  rw [fillUp, List.getElem?_append_right (by simp), List.length_map, Nat.sub_self, List.getElem?_replicate, if_pos (by omega)]
theorem fillUp_set {α : Type} {c : α → List Value} {z : List Value} {n : Nat} {done : List α} (h : done.length < n) (x : α) : (fillUp c z n done).set done.length (c x) = fillUp c z n (done ++ [x]) := by
  rw [fillUp, fillUp, List.set_append_right _ _ (by simp), List.length_map, Nat.sub_self]
  obtain ⟨m, hm⟩ : ∃ m, n - done.length = m + 1 := ⟨n - done.length - 1, by omega⟩
  have : n - (done ++ [x]).length = m := by simp; omega
  rw [hm, this, List.replicate_succ, List.set_cons_zero]; simp
theorem fillUp_all {α : Type} {c : α → List Value} {z : List Value} {n : Nat} {done : List α} (h : ¬ done.length < n) : fillUp c z n done = done.map c := by
  rw [fillUp, show n - done.length = 0 by omega]; simp
theorem fst_next {M : Type} {ts done : List (M × Value)} {t x : M × Value} (h : done.map Prod.fst = (ts.take done.length).map Prod.fst) (ht : ts[done.length]? = some t) (hx : x.1 = t.1) : (done ++ [x]).map Prod.fst = (ts.take (done ++ [x]).length).map Prod.fst := by
  have : (done ++ [x]).length = done.length + 1 := by simp
  rw [this, List.take_add_one, ht, List.map_append, List.map_append, h]; simp [hx]
theorem fst_get {M : Type} {xs ys : List (M × Value)} {k : Nat} {a b : M × Value} (ha : xs[k]? = some a) (hb : ys[k]? = some b) : (xs.map Prod.fst)[k]? = some a.1 ∧ (ys.map Prod.fst)[k]? = some b.1 := by simp [ha, hb]
end Go.Proofs.YtpmphkcibiimcaaGreat
