/-
  Texts of this proof, one behind the other: SortM, Sorts, SortU, SortUp, Req1, Req2, Req3, Req4, Req5, Req6, Req7, Req8.
-/
import Derived.Test.YtglpgohilfoecaaGreatPkpA
set_option linter.unusedVariables false
set_option linter.unusedSimpArgs false

/-
  Sorting of places by keys: no program is in sight here.
-/
namespace Go.Proofs.YtglpgohilfoecaaGreat
open Go.RowKit
def rowF (n : Nat) (f : Nat → Nat) : List (List Value) := (List.range n).map fun j => icell (f j : Int)
def upd (f : Nat → Nat) (k z : Nat) : Nat → Nat := fun j => if j = k then z else f j
theorem dT (n : Nat) (f : Nat → Nat) : (rowF n f).length = n := by simp [rowF]
theorem cd {n k : Nat} {f : Nat → Nat} (h : k < n) : (rowF n f)[k]? = some (icell (f k : Int)) := by
  simp [rowF, h]
theorem dU {n k z : Nat} {f : Nat → Nat} : (rowF n f).set k (icell (z : Int)) = rowF n (upd f k z) := by
  apply List.ext_getElem?
  intro j
  rw [List.getElem?_set]
  by_cases hj : j < n
  · rw [cd (f := upd f k z) hj]
    by_cases h : k = j
    · subst h; simp [dT, hj, upd]
    · rw [if_neg h, cd hj]; simp [upd, Ne.symm h]
  · rw [List.getElem?_eq_none (l := rowF n (upd f k z)) (by rw [dT]; omega), List.getElem?_eq_none (l := rowF n f) (by rw [dT]; omega), dT]
    split
    · rw [if_neg (by omega)]
    · rfl
/-- Two stretches change places. -/
def swapF (f : Nat → Nat) (a b k : Nat) : Nat → Nat := fun j => if a ≤ j ∧ j < a + k then f (j - a + b) else if b ≤ j ∧ j < b + k then f (j - b + a) else f j
theorem swapF_zero (f : Nat → Nat) (a b : Nat) : swapF f a b 0 = f := by
  funext j; unfold swapF; rw [if_neg (by omega), if_neg (by omega)]
theorem swapF_next {f : Nat → Nat} {a b i : Nat} (h : a + i < b) : upd (upd (swapF f a b i) (a + i) (swapF f a b i (b + i))) (b + i) (swapF f a b i (a + i)) = swapF f a b (i + 1) := by
  have e1 : swapF f a b i (b + i) = f (b + i) := by unfold swapF; rw [if_neg (by omega), if_neg (by omega)]
  have e2 : swapF f a b i (a + i) = f (a + i) := by unfold swapF; rw [if_neg (by omega), if_neg (by omega)]
  funext j
  rw [e1, e2]
  unfold upd swapF
  by_cases h1 : j = b + i
  · subst h1; rw [if_pos rfl, if_neg (by omega), if_pos (by omega)]; congr 1; omega
  · rw [if_neg h1]
    by_cases h2 : j = a + i
    · subst h2; rw [if_pos rfl, if_pos (by omega)]; congr 1; omega
    · rw [if_neg h2]
      by_cases h3 : a ≤ j ∧ j < a + i
      · rw [if_pos h3, if_pos (by omega)]
      · by_cases h4 : b ≤ j ∧ j < b + i
        · rw [if_neg h3, if_pos h4, if_neg (by omega), if_pos (by omega)]
        · rw [if_neg h3, if_neg h4, if_neg (by omega), if_neg (by omega)]
/-- A stretch is turned: what is from m on comes first. -/
def rotF (f : Nat → Nat) (a m b : Nat) : Nat → Nat := fun j => if a ≤ j ∧ j < a + (b - m) then f (j - a + m) else if a + (b - m) ≤ j ∧ j < b then f (j - (b - m)) else f j
theorem rot_big {f : Nat → Nat} {m i j : Nat} (h1 : j < i) (h2 : i ≤ m) : rotF (swapF f (m - i) m j) (m - (i - j)) m (m + j) = rotF f (m - i) m (m + j) := by
  funext x
  unfold rotF swapF
  by_cases c1 : m - i ≤ x ∧ x < m - i + (m + j - m)
  · rw [if_pos c1, if_neg (by omega), if_neg (by omega), if_pos (by omega)]
  · rw [if_neg c1]
    by_cases c2 : m - i + (m + j - m) ≤ x ∧ x < m + j
    · rw [if_pos c2]
      by_cases c3 : m - (i - j) ≤ x ∧ x < m - (i - j) + (m + j - m)
      · rw [if_pos c3, if_neg (by omega), if_pos (by omega)]; congr 1; omega
      · rw [if_neg c3, if_pos (by omega), if_neg (by omega), if_neg (by omega)]
    · rw [if_neg c2, if_neg (by omega), if_neg (by omega), if_neg (by omega), if_neg (by omega)]
theorem rot_small {f : Nat → Nat} {m i j : Nat} (h1 : i < j) (h2 : i ≤ m) : rotF (swapF f (m - i) (m + j - i) i) (m - i) m (m + (j - i)) = rotF f (m - i) m (m + j) := by
  funext x
  unfold rotF swapF
  by_cases c1 : m - i ≤ x ∧ x < m - i + (m + j - m)
  · rw [if_pos c1]
    by_cases c3 : m - i ≤ x ∧ x < m - i + (m + (j - i) - m)
    · rw [if_pos c3, if_neg (by omega), if_neg (by omega)]
    · rw [if_neg c3]
      by_cases c4 : x < m + (j - i)
      · rw [if_pos (by omega), if_pos (by omega)]; congr 1; omega
      · rw [if_neg (by omega), if_neg (by omega)]
        by_cases c5 : m + j - i ≤ x ∧ x < m + j - i + i
        · omega
        · omega
  · rw [if_neg c1]
    by_cases c2 : m - i + (m + j - m) ≤ x ∧ x < m + j
    · rw [if_pos c2, if_neg (by omega), if_neg (by omega), if_neg (by omega), if_pos (by omega)]; congr 1; omega
    · rw [if_neg c2, if_neg (by omega), if_neg (by omega), if_neg (by omega), if_neg (by omega)]
theorem rot_eq {f : Nat → Nat} {m i : Nat} (h2 : i ≤ m) : swapF f (m - i) m i = rotF f (m - i) m (m + i) := by
  funext x
  unfold rotF swapF
  split
  · rw [if_pos (by omega)]
  · split
    · rw [if_neg (by omega), if_pos (by omega)]; congr 1; omega
    · rw [if_neg (by omega), if_neg (by omega)]

/-! ### The order of places by keys -/
def bef (K : Nat → Int) (x y : Nat) : Prop := K x < K y ∨ (K x = K y ∧ x < y)
instance (K : Nat → Int) (x y : Nat) : Decidable (bef K x y) := by unfold bef; infer_instance
section
variable {K : Nat → Int} {x y z : Nat}
theorem bef.trans (h1 : bef K x y) (h2 : bef K y z) : bef K x z := by unfold bef at *; omega
theorem bef.irr (h : bef K x x) : False := by unfold bef at h; omega
theorem bef.asym (h1 : bef K x y) (h2 : bef K y x) : False := (h1.trans h2).irr
theorem bef.total (K : Nat → Int) (x y : Nat) : bef K x y ∨ x = y ∨ bef K y x := by unfold bef; omega
theorem bef.not (h : ¬ K y < K x) (hc : K x = K y → x < y) : bef K x y := by unfold bef; omega
end
/-- What stands from a on and ahead of b stood there. -/
structure Frm (a b : Nat) (f g : Nat → Nat) : Prop where
  out : ∀ j, j < a ∨ b ≤ j → g j = f j
  src : ∀ j, a ≤ j → j < b → ∃ i, a ≤ i ∧ i < b ∧ g j = f i
theorem Frm.refl (a b : Nat) (f : Nat → Nat) : Frm a b f f := ⟨fun _ _ => rfl, fun j h1 h2 => ⟨j, h1, h2, rfl⟩⟩
theorem Frm.trans {a b : Nat} {f g h : Nat → Nat} (h1 : Frm a b f g) (h2 : Frm a b g h) : Frm a b f h :=
  ⟨fun j hj => (h2.out j hj).trans (h1.out j hj), fun j ha hb => by
    obtain ⟨i, i1, i2, i3⟩ := h2.src j ha hb
    obtain ⟨k, k1, k2, k3⟩ := h1.src i i1 i2
    exact ⟨k, k1, k2, i3.trans k3⟩⟩
theorem Frm.mono {a b a' b' : Nat} {f g : Nat → Nat} (h : Frm a b f g) (ha : a' ≤ a) (hb : b ≤ b') : Frm a' b' f g :=
  ⟨fun j hj => h.out j (by omega), fun j h1 h2 => by
    by_cases c : a ≤ j ∧ j < b
    · obtain ⟨i, i1, i2, i3⟩ := h.src j c.1 c.2
      exact ⟨i, by omega, by omega, i3⟩
    · exact ⟨j, h1, h2, h.out j (by omega)⟩⟩
def Srt (K : Nat → Int) (a b : Nat) (f : Nat → Nat) : Prop := ∀ j k, a ≤ j → j < k → k < b → bef K (f j) (f k)
def Crs (K : Nat → Int) (a m b : Nat) (f : Nat → Nat) : Prop := ∀ j k, a ≤ j → j < m → m ≤ k → k < b → K (f j) = K (f k) → f j < f k
def Seg (K : Nat → Int) (a b : Nat) (f : Nat → Nat) : Prop := Srt K a b f ∧ ∀ j, a ≤ j → j < b → a ≤ f j ∧ f j < b
theorem Seg.crs {K : Nat → Int} {a m b : Nat} {f : Nat → Nat} (h1 : Seg K a m f) (h2 : Seg K m b f) : Crs K a m b f := fun j k a1 a2 a3 a4 _ => by
  have := h1.2 j a1 a2
  have := h2.2 k a3 a4
  omega
theorem Seg.merged {K : Nat → Int} {a m b : Nat} {f g : Nat → Nat} (h1 : Seg K a m f) (h2 : Seg K m b f) (hm : a ≤ m ∧ m ≤ b) (hf : Frm a b f g) (hs : Srt K a b g) : Seg K a b g := ⟨hs, fun j ha hb => by
  obtain ⟨i, i1, i2, i3⟩ := hf.src j ha hb
  rw [i3]
  by_cases c : i < m
  · have := h1.2 i i1 c; omega
  · have := h2.2 i (by omega) i2; omega⟩
theorem Seg.out {K : Nat → Int} {a b : Nat} {f g : Nat → Nat} (h : Seg K a b f) (e : ∀ j, a ≤ j → j < b → g j = f j) : Seg K a b g :=
  ⟨fun j k h1 h2 h3 => by rw [e j h1 (by omega), e k (by omega) h3]; exact h.1 j k h1 h2 h3, fun j h1 h2 => by rw [e j h1 h2]; exact h.2 j h1 h2⟩
theorem Seg.none {K : Nat → Int} {a b : Nat} {f : Nat → Nat} (h : b ≤ a) : Seg K a b f := ⟨fun j k _ _ _ => by omega, fun j _ _ => by omega⟩
theorem rot_frm {f : Nat → Nat} {a m b : Nat} (h1 : a ≤ m) (h2 : m ≤ b) : Frm a b f (rotF f a m b) := by
  refine ⟨fun j hj => ?_, fun j ha hb => ?_⟩
  · unfold rotF; rw [if_neg (by omega), if_neg (by omega)]
  · unfold rotF
    by_cases c : a ≤ j ∧ j < a + (b - m)
    · rw [if_pos c]; exact ⟨_, by omega, by omega, rfl⟩
    · rw [if_neg c, if_pos (by omega)]; exact ⟨_, by omega, by omega, rfl⟩
theorem d6 {f : Nat → Nat} {a m b j : Nat} (h1 : a ≤ j) (h2 : j < a + (b - m)) : rotF f a m b j = f (j - a + m) := by unfold rotF; rw [if_pos ⟨h1, h2⟩]
theorem rot_hi {f : Nat → Nat} {a m b j : Nat} (h1 : a + (b - m) ≤ j) (h2 : j < b) : rotF f a m b j = f (j - (b - m)) := by unfold rotF; rw [if_neg (by omega), if_pos ⟨h1, h2⟩]
theorem cO {f : Nat → Nat} {a m b j : Nat} (ha : a ≤ m) (hm : m ≤ b) (h1 : j < a ∨ b ≤ j) : rotF f a m b j = f j := (rot_frm ha hm).out j h1
theorem rot_id {f : Nat → Nat} {a m b : Nat} (h1 : a ≤ m) (h2 : m ≤ b) (h : a = m ∨ m = b) : rotF f a m b = f := by
  funext j; unfold rotF
  rcases h with rfl | rfl
  · split
    · congr 1; omega
    · split
      · omega
      · rfl
  · split
    · omega
    · split
      · congr 1; omega
      · rfl
/-- The midst of a merge: what is turned stands right. -/
structure Mid (K : Nat → Int) (a st mid en b : Nat) (f : Nat → Nat) : Prop where
  s1 : Srt K a st f
  s2 : Srt K st mid f
  c1 : Crs K a st mid f
  s3 : Srt K mid en f
  s4 : Srt K en b f
  c2 : Crs K mid en b f
  lr : ∀ j k, a ≤ j → j < mid → mid ≤ k → k < b → bef K (f j) (f k)
theorem mid_of {K : Nat → Int} {a st m mid en b : Nat} {f : Nat → Nat} (h1 : Srt K a m f) (h2 : Srt K m b f) (hc : Crs K a m b f) (ha : a ≤ st) (hm : st ≤ m) (hme : m ≤ en) (hen : en ≤ b) (hs : st + en = mid + m) (hml : st ≤ mid) (hmr : mid ≤ en)
    (hl : st = a ∨ en = b ∨ ¬ K (f en) < K (f (st - 1))) (hr : st = m ∨ en = m ∨ K (f (en - 1)) < K (f st)) : Mid K a st mid en b (rotF f st m en) := by
  have lo : ∀ j, st ≤ j → j < mid → rotF f st m en j = f (j - st + m) := fun j j1 j2 => d6 j1 (by omega)
  have hi : ∀ j, mid ≤ j → j < en → rotF f st m en j = f (j - (en - m)) := fun j j1 j2 => rot_hi (by omega) j2
  have ou : ∀ j, j < st ∨ en ≤ j → rotF f st m en j = f j := fun j hj => cO hm hme hj
  have ll : ∀ i k, a ≤ i → i < st → en ≤ k → k < b → bef K (f i) (f k) := fun i k i1 i2 k1 k2 => by
    have hb : bef K (f (st - 1)) (f en) := (by
      rcases hl with h | h | h
      · omega
      · omega
      · exact bef.not h (hc _ _ (by omega) (by omega) (by omega) (by omega)))
    have e1 : i = st - 1 ∨ bef K (f i) (f (st - 1)) := by
      by_cases c : i = st - 1
      · exact .inl c
      · exact .inr (h1 _ _ i1 (by omega) (by omega))
    have e2 : en = k ∨ bef K (f en) (f k) := by
      by_cases c : en = k
      · exact .inl c
      · exact .inr (h2 _ _ hme (by omega) k2)
    rcases e1 with rfl | e1 <;> rcases e2 with rfl | e2
    · exact hb
    · exact hb.trans e2
    · exact e1.trans hb
    · exact e1.trans (hb.trans e2)
  have rr : ∀ i k, m ≤ i → i < en → st ≤ k → k < m → bef K (f i) (f k) := fun i k i1 i2 k1 k2 => by
    have hb : bef K (f (en - 1)) (f st) := (by
      rcases hr with h | h | h
      · omega
      · omega
      · exact .inl h)
    have e1 : i = en - 1 ∨ bef K (f i) (f (en - 1)) := by
      by_cases c : i = en - 1
      · exact .inl c
      · exact .inr (h2 _ _ i1 (by omega) (by omega))
    have e2 : st = k ∨ bef K (f st) (f k) := by
      by_cases c : st = k
      · exact .inl c
      · exact .inr (h1 _ _ ha (by omega) k2)
    rcases e1 with rfl | e1 <;> rcases e2 with rfl | e2
    · exact hb
    · exact hb.trans e2
    · exact e1.trans hb
    · exact e1.trans (hb.trans e2)
  refine ⟨fun j k j1 j2 j3 => ?_, fun j k j1 j2 j3 => ?_, fun j k j1 j2 j3 j4 => ?_, fun j k j1 j2 j3 => ?_, fun j k j1 j2 j3 => ?_, fun j k j1 j2 j3 j4 => ?_, fun j k j1 j2 j3 j4 => ?_⟩
  · rw [ou j (by omega), ou k (by omega)]; exact h1 j k j1 j2 (by omega)
  · rw [lo j j1 (by omega), lo k (by omega) j3]; exact h2 _ _ (by omega) (by omega) (by omega)
  · rw [ou j (by omega), lo k j3 j4]; exact hc _ _ j1 (by omega) (by omega) (by omega)
  · rw [hi j j1 (by omega), hi k (by omega) j3]; exact h1 _ _ (by omega) (by omega) (by omega)
  · rw [ou j (by omega), ou k (by omega)]; exact h2 j k (by omega) j2 j3
  · rw [hi j j1 j2, ou k (by omega)]; exact hc _ _ (by omega) (by omega) (by omega) j4
  · by_cases cj : j < st
    · rw [ou j (by omega)]
      by_cases ck : k < en
      · rw [hi k j3 ck]; exact h1 _ _ j1 (by omega) (by omega)
      · rw [ou k (by omega)]; exact ll _ _ j1 cj (by omega) j4
    · rw [lo j (by omega) j2]
      by_cases ck : k < en
      · rw [hi k j3 ck]; exact rr _ _ (by omega) (by omega) (by omega) (by omega)
      · rw [ou k (by omega)]; exact h2 _ _ (by omega) (by omega) j4
theorem dR {K : Nat → Int} {a st mid : Nat} {f : Nat → Nat} (h1 : Srt K a st f) (h2 : Srt K st mid f) (h : ¬ (a < st ∧ st < mid)) (ha : a ≤ st) (hm : st ≤ mid) : Srt K a mid f := by
  by_cases c : st = a
  · subst c; exact h2
  · have : st = mid := by omega
    subst this; exact h1
theorem cA {K : Nat → Int} {a mid b : Nat} {f g1 g2 : Nat → Nat} (hlr : ∀ j k, a ≤ j → j < mid → mid ≤ k → k < b → bef K (f j) (f k)) (f1 : Frm a mid f g1) (s1 : Srt K a mid g1) (f2 : Frm mid b g1 g2) (s2 : Srt K mid b g2) : Srt K a b g2 := fun j k j1 j2 j3 => by
  by_cases cj : j < mid
  · rw [f2.out j (.inl cj)]
    by_cases ck : k < mid
    · rw [f2.out k (.inl ck)]; exact s1 j k j1 j2 ck
    · obtain ⟨i, i1, i2, i3⟩ := f1.src j j1 cj
      obtain ⟨l, l1, l2, l3⟩ := f2.src k (by omega) j3
      rw [i3, l3, f1.out l (.inr l1)]; exact hlr _ _ i1 i2 l1 l2
  · exact s2 j k (by omega) j2 j3
/-- One goes into the others: from the left. -/
theorem put_left {K : Nat → Int} {a b i : Nat} {f : Nat → Nat} (h2 : Srt K (a + 1) b f) (hc : Crs K a (a + 1) b f) (h1 : a + 1 ≤ i) (hb : i ≤ b) (hl : i = a + 1 ∨ K (f (i - 1)) < K (f a)) (hr : i = b ∨ ¬ K (f i) < K (f a)) : Srt K a b (rotF f a (a + 1) i) := fun j k j1 j2 j3 => by
  have lo : ∀ j, a ≤ j → j < i - 1 → rotF f a (a + 1) i j = f (j + 1) := fun j j1 j2 => by rw [d6 j1 (by omega)]; congr 1; omega
  have hi : rotF f a (a + 1) i (i - 1) = f a := by rw [rot_hi (by omega) (by omega)]; congr 1; omega
  have ou : ∀ j, i ≤ j → rotF f a (a + 1) i j = f j := fun j hj => cO (by omega) (by omega) (.inr hj)
  have hlt : ∀ l, a + 1 ≤ l → l < i → bef K (f l) (f a) := fun l l1 l2 => by
    have hb : bef K (f (i - 1)) (f a) := (by
      rcases hl with h | h
      · omega
      · exact .inl h)
    by_cases c : l = i - 1
    · rw [c]; exact hb
    · exact (h2 _ _ l1 (by omega) (by omega)).trans hb
  have hgt : ∀ l, i ≤ l → l < b → bef K (f a) (f l) := fun l l1 l2 => by
    have hb : bef K (f a) (f i) := (by
      rcases hr with h | h
      · omega
      · exact bef.not h (hc _ _ (by omega) (by omega) (by omega) (by omega)))
    by_cases c : l = i
    · rw [c]; exact hb
    · exact hb.trans (h2 _ _ (by omega) (by omega) l2)
  by_cases c1 : j < i - 1
  · rw [lo j j1 c1]
    by_cases c2 : k < i - 1
    · rw [lo k (by omega) c2]; exact h2 _ _ (by omega) (by omega) (by omega)
    · by_cases c3 : k = i - 1
      · rw [c3, hi]; exact hlt _ (by omega) (by omega)
      · rw [ou k (by omega)]; exact h2 _ _ (by omega) (by omega) j3
  · by_cases c2 : j = i - 1
    · rw [c2, hi, ou k (by omega)]; exact hgt _ (by omega) j3
    · rw [ou j (by omega), ou k (by omega)]; exact h2 _ _ (by omega) j2 j3
/-- .. and from the right. -/
theorem put_right {K : Nat → Int} {a m i : Nat} {f : Nat → Nat} (h1 : Srt K a m f) (hc : Crs K a m (m + 1) f) (ha : a ≤ i) (hm : i ≤ m) (hl : i = a ∨ ¬ K (f m) < K (f (i - 1))) (hr : i = m ∨ K (f m) < K (f i)) : Srt K a (m + 1) (rotF f i m (m + 1)) := fun j k j1 j2 j3 => by
  have lo : rotF f i m (m + 1) i = f m := by rw [d6 (by omega) (by omega)]; congr 1; omega
  have hi : ∀ j, i < j → j ≤ m → rotF f i m (m + 1) j = f (j - 1) := fun j j1 j2 => by rw [rot_hi (by omega) (by omega)]; congr 1; omega
  have ou : ∀ j, j < i → rotF f i m (m + 1) j = f j := fun j hj => cO hm (by omega) (.inl hj)
  have hlt : ∀ l, a ≤ l → l < i → bef K (f l) (f m) := fun l l1 l2 => by
    have hb : bef K (f (i - 1)) (f m) := (by
      rcases hl with h | h
      · omega
      · exact bef.not h (hc _ _ (by omega) (by omega) (by omega) (by omega)))
    by_cases c : l = i - 1
    · rw [c]; exact hb
    · exact (h1 _ _ l1 (by omega) (by omega)).trans hb
  have hgt : ∀ l, i ≤ l → l < m → bef K (f m) (f l) := fun l l1 l2 => by
    have hb : bef K (f m) (f i) := (by
      rcases hr with h | h
      · omega
      · exact .inl h)
    by_cases c : l = i
    · rw [c]; exact hb
    · exact hb.trans (h1 _ _ (by omega) (by omega) l2)
  by_cases c1 : j < i
  · rw [ou j c1]
    by_cases c2 : k < i
    · rw [ou k c2]; exact h1 _ _ j1 j2 (by omega)
    · by_cases c3 : k = i
      · rw [c3, lo]; exact hlt _ j1 c1
      · rw [hi k (by omega) (by omega)]; exact h1 _ _ j1 (by omega) (by omega)
  · by_cases c2 : j = i
    · rw [c2, lo, hi k (by omega) (by omega)]; exact hgt _ (by omega) (by omega)
    · rw [hi j (by omega) (by omega), hi k (by omega) (by omega)]; exact h1 _ _ (by omega) (by omega) (by omega)
theorem rot_up {f : Nat → Nat} {a k : Nat} (h : a ≤ k) : upd (upd (rotF f a (a + 1) (k + 1)) k (rotF f a (a + 1) (k + 1) (k + 1))) (k + 1) (rotF f a (a + 1) (k + 1) k) = rotF f a (a + 1) (k + 2) := by
  have e1 : rotF f a (a + 1) (k + 1) (k + 1) = f (k + 1) := cO (by omega) (by omega) (.inr (Nat.le_refl _))
  have e2 : rotF f a (a + 1) (k + 1) k = f a := by
    rw [rot_hi (by omega) (by omega)]; congr 1; omega
  rw [e1, e2]; funext j
  unfold upd rotF
  by_cases c1 : j = k + 1
  · rw [if_pos c1, if_neg (by omega), if_pos (by omega)]; congr 1; omega
  · rw [if_neg c1]
    by_cases c2 : j = k
    · rw [if_pos c2, if_pos (by omega)]; congr 1; omega
    · rw [if_neg c2]
      by_cases c3 : a ≤ j ∧ j < k
      · rw [if_pos (by omega), if_pos (by omega)]
      · rw [if_neg (by omega), if_neg (by omega), if_neg (by omega), if_neg (by omega)]
theorem rot_dn {f : Nat → Nat} {m k : Nat} (h : k < m) : upd (upd (rotF f (k + 1) m (m + 1)) (k + 1) (rotF f (k + 1) m (m + 1) k)) k (rotF f (k + 1) m (m + 1) (k + 1)) = rotF f k m (m + 1) := by
  have e1 : rotF f (k + 1) m (m + 1) k = f k := cO (by omega) (by omega) (.inl (by omega))
  have e2 : rotF f (k + 1) m (m + 1) (k + 1) = f m := by
    rw [d6 (by omega) (by omega)]; congr 1; omega
  rw [e1, e2]; funext j
  unfold upd rotF
  by_cases c1 : j = k
  · rw [if_pos c1, if_pos (by omega)]; congr 1; omega
  · rw [if_neg c1]
    by_cases c2 : j = k + 1
    · rw [if_pos c2, if_neg (by omega), if_pos (by omega)]; congr 1; omega
    · rw [if_neg c2]
      by_cases c3 : k + 1 < j ∧ j < m + 1
      · rw [if_neg (by omega), if_pos (by omega), if_neg (by omega), if_pos (by omega)]
      · rw [if_neg (by omega), if_neg (by omega), if_neg (by omega), if_neg (by omega)]
/-! ### Blocks -/
def Blk (K : Nat → Int) (s n : Nat) (f : Nat → Nat) : Prop := ∀ q, Seg K (q * s) (min (q * s + s) n) f
structure Ins (K : Nat → Int) (n q : Nat) (f : Nat → Nat) : Prop where
  le : q * 20 ≤ n
  lo : ∀ p, p < q → Seg K (p * 20) (p * 20 + 20) f
  hi : ∀ j, q * 20 ≤ j → f j = j
structure Pass (K : Nat → Int) (s n q : Nat) (f : Nat → Nat) : Prop where
  le : q * (2 * s) ≤ n
  lo : ∀ p, p < q → Seg K (p * (2 * s)) (p * (2 * s) + 2 * s) f
  hi : ∀ p, 2 * q ≤ p → Seg K (p * s) (min (p * s + s) n) f
theorem Ins.start (K : Nat → Int) (n : Nat) : Ins K n 0 (fun j => j) := ⟨by omega, fun p h => by omega, fun _ _ => rfl⟩
theorem Ins.next {K : Nat → Int} {n q : Nat} {f g : Nat → Nat} (h : Ins K n q f) (hb : q * 20 + 20 ≤ n) (ho : ∀ j, j < q * 20 ∨ q * 20 + 20 ≤ j → g j = f j) (hg : Seg K (q * 20) (q * 20 + 20) g) : Ins K n (q + 1) g := by
  refine ⟨by omega, fun p hp => ?_, fun j hj => by rw [ho j (by omega)]; exact h.hi j (by omega)⟩
  by_cases c : p = q
  · rw [c]; exact hg
  · exact (h.lo p (by omega)).out fun j _ _ => ho j (by omega)
theorem Ins.last {K : Nat → Int} {n q : Nat} {f g : Nat → Nat} (h : Ins K n q f) (hb : n < q * 20 + 20) (ho : ∀ j, j < q * 20 ∨ n ≤ j → g j = f j) (hg : Seg K (q * 20) n g) : Blk K 20 n g := by
  intro p
  have hle := h.le
  by_cases c : p = q
  · rw [c, Nat.min_eq_right (by omega)]; exact hg
  · by_cases c2 : p < q
    · rw [Nat.min_eq_left (by omega)]; exact (h.lo p c2).out fun j _ _ => ho j (by omega)
    · exact Seg.none (by omega)
theorem Pass.start {K : Nat → Int} {s n : Nat} {f : Nat → Nat} (h : Blk K s n f) : Pass K s n 0 f := ⟨by omega, fun p h => by omega, fun p _ => h p⟩
theorem Pass.two {K : Nat → Int} {s n q : Nat} {f : Nat → Nat} (h : Pass K s n q f) (hb : q * (2 * s) + s < n) : Seg K (q * (2 * s)) (q * (2 * s) + s) f ∧ Seg K (q * (2 * s) + s) (min (q * (2 * s) + 2 * s) n) f := by
  have h1 := h.hi (2 * q) (Nat.le_refl _)
  have h2 := h.hi (2 * q + 1) (by omega)
  have e1 : 2 * q * s = q * (2 * s) := by rw [Nat.mul_comm 2 q, Nat.mul_assoc]
  have e2 : (2 * q + 1) * s = q * (2 * s) + s := by rw [Nat.succ_mul, e1]
  rw [e1, Nat.min_eq_left (by omega)] at h1
  rw [e2, show q * (2 * s) + s + s = q * (2 * s) + 2 * s from by omega] at h2
  exact ⟨h1, h2⟩
theorem Pass.next {K : Nat → Int} {s n q : Nat} {f g : Nat → Nat} (h : Pass K s n q f) (hb : q * (2 * s) + 2 * s ≤ n) (ho : ∀ j, j < q * (2 * s) ∨ q * (2 * s) + 2 * s ≤ j → g j = f j) (hg : Seg K (q * (2 * s)) (q * (2 * s) + 2 * s) g) : Pass K s n (q + 1) g := by
  have e3 : (q + 1) * (2 * s) = q * (2 * s) + 2 * s := Nat.succ_mul _ _
  refine ⟨by omega, fun p hp => ?_, fun p hp => ?_⟩
  · by_cases c : p = q
    · rw [c]; exact hg
    · have : (p + 1) * (2 * s) ≤ q * (2 * s) := Nat.mul_le_mul_right _ (by omega)
      rw [Nat.succ_mul] at this
      exact (h.lo p (by omega)).out fun j _ _ => ho j (by omega)
  · have e1 : 2 * (q + 1) * s = q * (2 * s) + 2 * s := by rw [Nat.mul_comm 2 (q + 1), Nat.mul_assoc, e3]
    have : 2 * (q + 1) * s ≤ p * s := Nat.mul_le_mul_right _ hp
    exact (h.hi p (by omega)).out fun j _ _ => ho j (by omega)
theorem Pass.last {K : Nat → Int} {s n q : Nat} {f g : Nat → Nat} (h : Pass K s n q f) (hb : n < q * (2 * s) + 2 * s) (ho : ∀ j, j < q * (2 * s) ∨ n ≤ j → g j = f j) (hg : Seg K (q * (2 * s)) n g) : Blk K (2 * s) n g := by
  intro p
  have hle := h.le
  by_cases c : p = q
  · rw [c, Nat.min_eq_right (by omega)]; exact hg
  · by_cases c2 : p < q
    · have : (p + 1) * (2 * s) ≤ q * (2 * s) := Nat.mul_le_mul_right _ (by omega)
      rw [Nat.succ_mul] at this
      rw [Nat.min_eq_left (by omega)]; exact (h.lo p c2).out fun j _ _ => ho j (by omega)
    · have : (q + 1) * (2 * s) ≤ p * (2 * s) := Nat.mul_le_mul_right _ (by omega)
      rw [Nat.succ_mul] at this
      exact Seg.none (by omega)
theorem Pass.end {K : Nat → Int} {s n q : Nat} {f : Nat → Nat} (h : Pass K s n q f) (hb : n < q * (2 * s) + 2 * s) (hm : n ≤ q * (2 * s) + s) : Blk K (2 * s) n f := by
  refine h.last hb (fun _ _ => rfl) ?_
  have h1 := h.hi (2 * q) (Nat.le_refl _)
  have e1 : 2 * q * s = q * (2 * s) := by rw [Nat.mul_comm 2 q, Nat.mul_assoc]
  rw [e1, Nat.min_eq_right (by omega)] at h1
  exact h1
theorem Blk.all {K : Nat → Int} {s n : Nat} {f : Nat → Nat} (h : Blk K s n f) (hs : n ≤ s) : Seg K 0 n f := by
  have := h 0
  rwa [Nat.zero_mul, Nat.min_eq_right (by omega)] at this
/-! ### The order itself, and that there is but one -/
def ordM (K : Nat → Int) (n : Nat) : List Nat := (List.range n).mergeSort (fun x y => decide (bef K x y ∨ x = y))
theorem dV (K : Nat → Int) (n : Nat) : (ordM K n).Perm (List.range n) := List.mergeSort_perm _ _
theorem cP (K : Nat → Int) (n : Nat) : (ordM K n).length = n := by rw [(dV K n).length_eq, List.length_range]
theorem dJ {K : Nat → Int} {n x : Nat} : x ∈ ordM K n ↔ x < n := by rw [(dV K n).mem_iff, List.mem_range]
theorem ordM_srt (K : Nat → Int) (n : Nat) : (ordM K n).Pairwise (bef K) := by
  have h1 : (ordM K n).Pairwise (fun x y => decide (bef K x y ∨ x = y) = true) := List.pairwise_mergeSort (fun a b c h1 h2 => by
      simp only [decide_eq_true_eq] at *
      rcases h1 with h1 | rfl
      · rcases h2 with h2 | rfl
        · exact .inl (h1.trans h2)
        · exact .inl h1
      · exact h2) (fun a b => by
      simp only [Bool.or_eq_true, decide_eq_true_eq]
      rcases bef.total K a b with h | h | h
      · exact .inl (.inl h)
      · exact .inl (.inr h)
      · exact .inr (.inl h)) _
  have h2 : (ordM K n).Nodup := (dV K n).nodup_iff.2 List.nodup_range
  refine List.Pairwise.imp₂ (fun a b h3 h4 => ?_) h1 h2
  simp only [decide_eq_true_eq] at h3
  rcases h3 with h3 | h3
  · exact h3
  · exact absurd h3 h4
theorem srt_uniq {K : Nat → Int} : ∀ {xs ys : List Nat}, xs.Pairwise (bef K) → ys.Pairwise (bef K) → (∀ x, x ∈ xs ↔ x ∈ ys) → xs = ys
  | [], [], _, _, _ => rfl
  | [], y :: _, _, _, h => by have := (h y).2 (List.mem_cons_self); cases this
  | x :: _, [], _, _, h => by have := (h x).1 (List.mem_cons_self); cases this
  | x :: xs, y :: ys, h1, h2, h => by
    have p1 := List.pairwise_cons.1 h1
    have p2 := List.pairwise_cons.1 h2
    have e : x = y := by
      rcases List.mem_cons.1 ((h x).1 List.mem_cons_self) with e | e
      · exact e
      · rcases List.mem_cons.1 ((h y).2 List.mem_cons_self) with e2 | e2
        · exact e2.symm
        · exact ((p1.1 _ e2).asym (p2.1 _ e)).elim
    subst e
    congr 1
    refine srt_uniq p1.2 p2.2 fun z => ?_
    constructor
    · intro hz
      rcases List.mem_cons.1 ((h z).1 (List.mem_cons_of_mem _ hz)) with e | e
      · subst e; exact ((p1.1 _ hz).irr).elim
      · exact e
    · intro hz
      rcases List.mem_cons.1 ((h z).2 (List.mem_cons_of_mem _ hz)) with e | e
      · subst e; exact ((p2.1 _ hz).irr).elim
      · exact e
theorem len_sub {α : Type} [DecidableEq α] : ∀ {xs ys : List α}, xs.Nodup → (∀ x ∈ xs, x ∈ ys) → xs.length ≤ ys.length
  | [], _, _, _ => Nat.zero_le _
  | x :: xs, ys, hn, h => by
    have hp := List.nodup_cons.1 hn
    have hx := h x List.mem_cons_self
    have := len_sub (ys := ys.erase x) hp.2 (fun z hz => by
      refine (List.mem_erase_of_ne ?_).2 (h z (List.mem_cons_of_mem _ hz))
      rintro rfl; exact hp.1 hz)
    rw [List.length_erase_of_mem hx] at this
    have h0 : 0 < ys.length := List.length_pos_of_mem hx
    simp only [List.length_cons]; omega
theorem ord_of_srt {K : Nat → Int} {n : Nat} {xs : List Nat} (hs : xs.Pairwise (bef K)) (hl : xs.length = n) (hm : ∀ x ∈ xs, x < n) : xs = ordM K n := by
  have hn : xs.Nodup := hs.imp fun h e => by subst e; exact h.irr
  refine srt_uniq hs (ordM_srt K n) fun x => ?_
  rw [dJ]
  refine ⟨hm x, fun hx => ?_⟩
  by_cases c : x ∈ xs
  · exact c
  · have := len_sub (xs := x :: xs) (ys := List.range n) (List.nodup_cons.2 ⟨c, hn⟩) (fun z hz => by
      rw [List.mem_range]
      rcases List.mem_cons.1 hz with rfl | hz
      · exact hx
      · exact hm z hz)
    simp only [List.length_cons, List.length_range] at this; omega
theorem ord_of_perm {K : Nat → Int} {n : Nat} {xs : List Nat} (hs : xs.Pairwise (bef K)) (hp : xs.Perm (List.range n)) : xs = ordM K n :=
  ord_of_srt hs (by rw [hp.length_eq, List.length_range]) fun x hx => List.mem_range.1 (hp.mem_iff.1 hx)
def ncell (j : Nat) : List Value := icell (j : Int)
theorem ord_of_seg {K : Nat → Int} {n : Nat} {f : Nat → Nat} (h : Seg K 0 n f) : rowF n f = (ordM K n).map ncell := by
  have e : (List.range n).map f = ordM K n := by
    refine ord_of_srt ?_ (by simp) (fun x hx => ?_)
    · rw [List.pairwise_iff_getElem]
      intro i j hi hj hij
      simp only [List.getElem_map, List.getElem_range]
      exact h.1 i j (Nat.zero_le _) hij (by simpa using hj)
    · obtain ⟨j, hj, rfl⟩ := List.mem_map.1 hx
      exact (h.2 j (Nat.zero_le _) (List.mem_range.1 hj)).2
  rw [← e, List.map_map]; rfl
/-! ### Merging of lists -/
def mrgM (K : Nat → Int) : List Nat → List Nat → List Nat
  | [], ys => ys
  | x :: xs, [] => x :: xs
  | x :: xs, y :: ys => if K y < K x then y :: mrgM K (x :: xs) ys else x :: mrgM K xs (y :: ys)
termination_by xs ys => xs.length + ys.length
section
variable {K : Nat → Int}
theorem mrg_nilR (xs : List Nat) : mrgM K xs [] = xs := by cases xs <;> simp [mrgM]
theorem dW : ∀ (xs ys : List Nat), (mrgM K xs ys).Perm (xs ++ ys)
  | [], ys => by simp [mrgM]
  | x :: xs, [] => by simp [mrgM]
  | x :: xs, y :: ys => by
    rw [mrgM]
    split
    · exact ((dW (x :: xs) ys).cons y).trans List.perm_middle.symm
    · exact (dW xs (y :: ys)).cons x
termination_by xs ys => xs.length + ys.length
theorem mrg_srt : ∀ (xs ys : List Nat), xs.Pairwise (bef K) → ys.Pairwise (bef K) → (∀ x ∈ xs, ∀ y ∈ ys, K x = K y → x < y) → (mrgM K xs ys).Pairwise (bef K)
  | [], ys, _, h, _ => by simpa [mrgM] using h
  | x :: xs, [], h, _, _ => by simpa [mrgM] using h
  | x :: xs, y :: ys, h1, h2, hc => by
    have p1 := List.pairwise_cons.1 h1
    have p2 := List.pairwise_cons.1 h2
    rw [mrgM]
    split
    · rename_i hk
      refine List.pairwise_cons.2 ⟨fun z hz => ?_, mrg_srt (x :: xs) ys h1 p2.2 fun a ha b hb => hc a ha b (List.mem_cons_of_mem _ hb)⟩
      have hyx : bef K y x := .inl hk
      rcases List.mem_append.1 ((dW (x :: xs) ys).mem_iff.1 hz) with hz | hz
      · rcases List.mem_cons.1 hz with rfl | hz
        · exact hyx
        · exact hyx.trans (p1.1 z hz)
      · exact p2.1 z hz
    · rename_i hk
      refine List.pairwise_cons.2 ⟨fun z hz => ?_, mrg_srt xs (y :: ys) p1.2 h2 fun a ha b hb => hc a (List.mem_cons_of_mem _ ha) b hb⟩
      have hxy : bef K x y := bef.not hk (hc x List.mem_cons_self y List.mem_cons_self)
      rcases List.mem_append.1 ((dW xs (y :: ys)).mem_iff.1 hz) with hz | hz
      · exact p1.1 z hz
      · rcases List.mem_cons.1 hz with rfl | hz
        · exact hxy
        · exact hxy.trans (p2.1 z hz)
termination_by xs ys => xs.length + ys.length
theorem mrg_left {xs ys : List Nat} {i j x : Nat} (hx : xs[i]? = some x) (h : ∀ y, ys[j]? = some y → ¬ K y < K x) : mrgM K (xs.drop i) (ys.drop j) = x :: mrgM K (xs.drop (i + 1)) (ys.drop j) := by
  have hi : i < xs.length := by
    rcases Nat.lt_or_ge i xs.length with h1 | h1
    · exact h1
    · rw [List.getElem?_eq_none h1] at hx; cases hx
  rw [List.drop_eq_getElem_cons hi]
  rw [List.getElem?_eq_getElem hi] at hx
  rw [Option.some.inj hx]
  rcases Nat.lt_or_ge j ys.length with h1 | h1
  · rw [List.drop_eq_getElem_cons h1, mrgM, if_neg (h _ (List.getElem?_eq_getElem h1))]
  · rw [List.drop_eq_nil_of_le h1, mrg_nilR, mrg_nilR]
theorem mrg_right {xs ys : List Nat} {i j y : Nat} (hy : ys[j]? = some y) (h : ∀ x, xs[i]? = some x → K y < K x) : mrgM K (xs.drop i) (ys.drop j) = y :: mrgM K (xs.drop i) (ys.drop (j + 1)) := by
  have hj : j < ys.length := by
    rcases Nat.lt_or_ge j ys.length with h1 | h1
    · exact h1
    · rw [List.getElem?_eq_none h1] at hy; cases hy
  rw [List.drop_eq_getElem_cons hj]
  rw [List.getElem?_eq_getElem hj] at hy
  rw [Option.some.inj hy]
  rcases Nat.lt_or_ge i xs.length with h1 | h1
  · rw [List.drop_eq_getElem_cons h1, mrgM, if_pos (h _ (List.getElem?_eq_getElem h1))]
  · rw [List.drop_eq_nil_of_le h1, mrgM, mrgM]
end
end Go.Proofs.YtglpgohilfoecaaGreat

/-
  The library's stable sort at places, beside a comparison by keys.
-/
namespace Go.Proofs.YtglpgohilfoecaaGreat
open Go.RowKit
attribute [local irreducible] Go.wpList Go.Code.wp Go.Exit.then Go.Exit.inBlock Go.bodyPost Go.Calls pE pB G RunsV FnV Fn FnM
set_option maxRecDepth 100000
set_option maxHeartbeats 4000000
def cmpZ (x y : Int) : Int := if x < y then -1 else if x > y then 1 else 0
theorem ce {x y : Int} : cmpZ x y < 0 ↔ x < y := by
  unfold cmpZ
  split
  · omega
  · split <;> omega
theorem cW {β : Type} {es : List β} {i k : Nat} {x y : β} (h : i ≠ k) (he : es[k]? = some x) : (es.set i y)[k]? = some x := by
  rw [List.getElem?_set_ne h]; exact he
theorem swap_row {n k l : Nat} {f : Nat → Nat} : ((rowF n f).set k (icell (f l : Int))).set l (icell (f k : Int)) = rowF n (upd (upd f k (f l)) l (f k)) := by rw [dU, dU]
theorem row_up {n a k : Nat} {f : Nat → Nat} (h : a ≤ k) : ((rowF n (rotF f a (a + 1) (k + 1))).set k (icell (f (k + 1) : Int))).set (k + 1) (icell (f a : Int)) = rowF n (rotF f a (a + 1) (k + 2)) := by
  have e1 : rotF f a (a + 1) (k + 1) (k + 1) = f (k + 1) := cO (by omega) (by omega) (.inr (Nat.le_refl _))
  have e2 : rotF f a (a + 1) (k + 1) k = f a := by
    rw [rot_hi (by omega) (by omega)]; congr 1; omega
  have := rot_up (f := f) h
  rw [e1, e2] at this
  rw [dU, dU, this]
theorem row_dn {n m k : Nat} {f : Nat → Nat} (h : k < m) : ((rowF n (rotF f (k + 1) m (m + 1))).set (k + 1) (icell (f k : Int))).set k (icell (f m : Int)) = rowF n (rotF f k m (m + 1)) := by
  have e1 : rotF f (k + 1) m (m + 1) k = f k := cO (by omega) (by omega) (.inl (by omega))
  have e2 : rotF f (k + 1) m (m + 1) (k + 1) = f m := by
    rw [d6 (by omega) (by omega)]; congr 1; omega
  have := rot_dn (f := f) h
  rw [e1, e2] at this
  rw [dU, dU, this]
theorem ins_next {K : Nat → Int} {a i j : Nat} {g : Nat → Nat} (hs : Seg K a i g) (hi : g i = i) (ha : a ≤ j) (hj : j ≤ i) (hl : j = a ∨ ¬ K (g i) < K (g (j - 1))) (hr : j = i ∨ K (g i) < K (g j)) : Seg K a (i + 1) (rotF g j i (i + 1)) := by
  refine ⟨put_right hs.1 (fun l k l1 l2 k1 k2 _ => ?_) ha hj hl hr, fun l l1 l2 => ?_⟩
  · have := hs.2 l l1 l2
    obtain rfl : k = i := by omega
    omega
  · obtain ⟨z, z1, z2, z3⟩ := (rot_frm (f := g) hj (by omega : i ≤ i + 1)).mono ha (Nat.le_refl _) |>.src l l1 l2
    rw [z3]
    by_cases c : z = i
    · subst c; omega
    · have := hs.2 z z1 (by omega); omega
section
variable {w0 : World} {F : List Ch} {v u : Value} {n : Nat}

theorem swapRange_any {f : Nat → Nat} {a b k : Nat} (h1 : a + k ≤ b) (h2 : b + k ≤ n) (hn : n ≤ 1048576) :
    FnMF Tryz.prog 246 [v, .int .i64 (a : Int), .int .i64 (b : Int), .int .i64 (k : Int), u] w0 [.row v 3 1 (rowF n f)] F (fun _ : Unit => True) (fun _ => .tuple #[]) (fun _ => [.row v 3 1 (rowF n (swapF f a b k))]) := by
  refine FnMF.of (n := 38) Tryz.func246 rfl rfl ?_; refine G.seq (G.region (G.v (bb rfl) rfl (G.I (G.E (G.block ?_))))); refine G.bo (rowF n (swapF f a b 0)) (by rw [swapF_zero]) rfl ?_; refine G.Y (ι := Nat) (ks := [0, 1, 2, 3]) (fun i => [(10, .int .i64 (i : Int))]) (fun i => [.row v 3 1 (rowF n (swapF f a b i))]) (fun i => i ≤ k) (fun i => k - i) 0 (.cons rfl (.cons rfl (.cons rfl (.cons rfl (.nil))))) rfl ?_ ?_ ?_
  exact Nat.zero_le _
  exact ⟨rfl, trivial⟩
  rintro i hi
  by_cases hlt : i < k
  case' pos => (have e1 : (rowF n (swapF f a b i))[a + i]? = some (icell (swapF f a b i (a + i) : Int)) := cd (by omega); have e2 : (rowF n (swapF f a b i))[b + i]? = some (icell (swapF f a b i (b + i) : Int)) := cd (by omega))
  all_goals
   refine G.seq (G.seq (G.region (G.v (ba rfl) rfl (G.v (ba rfl) rfl (G.v (br rfl rfl) rfl (G.I (G.E ?_))))))); refine G.cond rfl (fun hc => ?_) (fun hc => ?_)
   · all_goals
      replace hc := of_decide_eq_true hc
      try (exfalso; omega)
      all_goals
       refine G.skip (G.E (G.seq (G.block ?_))); refine G.drawS [21, 23] rfl ?_; refine GS.p 0 rfl (by as_aux_lemma => kernel_rfl) (bc (ba rfl)) (fun _ h => h.drop 1) rfl ?_; refine GS.p 1 rfl (by as_aux_lemma => kernel_rfl) (bc (ba rfl)) (fun _ h => h.drop 1) rfl ?_; refine GS.p 2 rfl (by as_aux_lemma => kernel_rfl) (bc (ba rfl)) (fun _ h => h.drop 1) rfl ?_; refine GS.p 3 rfl (by as_aux_lemma => kernel_rfl) (bc (cH rfl rfl (by omega))) (fun _ h => h.drop 1) rfl ?_; refine GS.p 4 rfl (by as_aux_lemma => kernel_rfl) (bc (ba rfl)) (fun _ h => h.drop 1) rfl ?_; refine GS.p 5 rfl (by as_aux_lemma => kernel_rfl) (bc (ba rfl)) (fun _ h => h.drop 1) rfl ?_; refine GS.p 6 rfl (by as_aux_lemma => kernel_rfl) (bc (ba rfl)) (fun _ h => h.drop 1) rfl ?_; refine GS.p 7 rfl (by as_aux_lemma => kernel_rfl) (bc (cH rfl rfl (by omega))) (fun _ h => h.drop 1) rfl ?_; refine GS.p 8 rfl (by as_aux_lemma => kernel_rfl) (bc (ba rfl)) (fun _ h => h.drop 1) rfl ?_; refine GS.p 9 rfl (by as_aux_lemma => kernel_rfl) (bc (ba rfl)) (fun _ h => h.drop 1) rfl ?_; refine GS.p 10 rfl (by as_aux_lemma => kernel_rfl) (bc (ba rfl)) (fun _ h => h.drop 1) rfl ?_; refine GS.p 11 rfl (by as_aux_lemma => kernel_rfl) (bc (cH rfl rfl (by omega))) (fun _ h => h.drop 1) rfl ?_
       refine GS.q 12 [13, 20, 21, 22, 23] rfl (by as_aux_lemma => kernel_rfl) (by as_aux_lemma => kernel_rfl) (bc (bg rfl rfl (by exact Rd.ba 0 rfl) rfl (by exact e2))) rfl ?_; refine GS.q 13 [20, 21, 22, 23] rfl (by as_aux_lemma => kernel_rfl) (by as_aux_lemma => kernel_rfl) (bc (bi rfl (by exact Rd.ba 0 rfl) (by exact e2) rfl)) rfl ?_; refine GS.p 14 rfl (by as_aux_lemma => kernel_rfl) (bc (ba rfl)) (fun _ h => h.drop 1) rfl ?_; refine GS.p 15 rfl (by as_aux_lemma => kernel_rfl) (bc (ba rfl)) (fun _ h => h.drop 1) rfl ?_; refine GS.p 16 rfl (by as_aux_lemma => kernel_rfl) (bc (ba rfl)) (fun _ h => h.drop 1) rfl ?_; refine GS.p 17 rfl (by as_aux_lemma => kernel_rfl) (bc (cH rfl rfl (by omega))) (fun _ h => h.drop 1) rfl ?_; refine GS.q 18 [19, 20, 21, 22, 23] rfl (by as_aux_lemma => kernel_rfl) (by as_aux_lemma => kernel_rfl) (bc (bg rfl rfl (by exact Rd.ba 0 rfl) rfl (by exact e1))) rfl ?_; refine GS.q 19 [20, 21, 22, 23] rfl (by as_aux_lemma => kernel_rfl) (by as_aux_lemma => kernel_rfl) (bc (bi rfl (by exact Rd.ba 0 rfl) (by exact e1) rfl)) rfl ?_; refine GS.q 20 [21, 22, 23] rfl (by as_aux_lemma => kernel_rfl) (by as_aux_lemma => kernel_rfl) (bc (bg rfl rfl (by exact Rd.ba 0 rfl) rfl (by exact e1))) rfl ?_
       refine GS.o0 21 (by as_aux_lemma => kernel_rfl) rfl rfl (cR rfl rfl rfl (by exact e1) rfl rfl rfl rfl (.zero (.cons .nil))) (fun _ _ h => h.drop 1) (fun _ _ => ?_); refine GS.q 22 [23] rfl (by as_aux_lemma => kernel_rfl) (by as_aux_lemma => kernel_rfl) (bc (bg rfl rfl (by exact Rd.ba 0 rfl) rfl (by exact cW (by omega) e2))) rfl ?_; refine GS.o0 23 (by as_aux_lemma => kernel_rfl) rfl rfl (cR rfl rfl rfl (by exact cW (by omega) e2) rfl rfl rfl rfl (.zero (.cons .nil))) (fun _ _ h => h.drop 1) (fun _ _ => ?_); refine GS.done (by as_aux_lemma => kernel_rfl) ?_; refine G.bc (G.E (G.region (G.v (ba rfl) rfl ?_))); refine G.v (bp rfl rfl (by omega)) rfl ?_; refine G.v (bb rfl) rfl (G.I ?_); refine G.V (i + 1) 0 (bV (congrArg (fun z => Ch.row v 3 1 z) (swap_row.trans (congrArg (rowF n) (swapF_next (by omega)))))) (.cons rfl (.cons rfl (.cons rfl (.cons rfl (.nil))))) ?_ ?_ ?_
       exact ⟨rfl, trivial⟩
       exact hlt
       omega
   · all_goals
      replace hc := of_decide_eq_false hc
      try (exfalso; omega)
      all_goals
       refine G.exit (G.L (G.L (G.bn ?_)))
       exact G.bC () trivial rfl rfl (fun w hw => by obtain rfl : i = k := (by omega); exact hw)
theorem rotate_any {f : Nat → Nat} {a m b : Nat} (h1 : a < m) (h2 : m < b) (h3 : b ≤ n) (hn : n ≤ 1048576) :
    FnMF Tryz.prog 245 [v, .int .i64 (a : Int), .int .i64 (m : Int), .int .i64 (b : Int), u] w0 [.row v 3 1 (rowF n f)] F (fun _ : Unit => True) (fun _ => .tuple #[]) (fun _ => [.row v 3 1 (rowF n (rotF f a m b))]) := by
  refine FnMF.of (n := 58) Tryz.func245 rfl rfl ?_; refine G.seq (G.region (G.v (ba rfl) rfl (G.v (ba rfl) rfl ?_))); refine G.v (cI rfl rfl (by omega) (by omega)) rfl ?_; refine G.v (bb rfl) rfl (G.I (G.E (G.seq (G.region (G.v (ba rfl) rfl (G.v (ba rfl) rfl ?_)))))); refine G.v (cI rfl rfl (by omega) (by omega)) rfl ?_; refine G.v (bb rfl) rfl (G.I (G.E (G.seq (G.block ?_)))); refine G.Y (ι := Nat × Nat × (Nat → Nat)) (ks := [0, 2, 4]) (fun x => [(10, .int .i64 (x.1 : Int)), (11, .int .i64 (x.2.1 : Int))]) (fun x => [.row v 3 1 (rowF n x.2.2)]) (fun x => 0 < x.1 ∧ 0 < x.2.1 ∧ x.1 ≤ m ∧ m + x.2.1 ≤ b ∧ rotF x.2.2 (m - x.1) m (m + x.2.1) = rotF f a m b) (fun x => x.1 + x.2.1) (m - a, b - m, f) (.cons rfl (.cons rfl (.cons rfl (.nil)))) rfl ?_ ?_ ?_
  exact ⟨by dsimp only; omega, by dsimp only; omega, by dsimp only; omega, by dsimp only; omega, by dsimp only; rw [show m - (m - a) = a from by omega, show m + (b - m) = b from by omega]⟩
  exact ⟨rfl, rfl, trivial⟩
  rintro ⟨i, j, g⟩ ⟨hi, hj, him, hjb, hg2⟩
  dsimp only at hi hj him hjb hg2 ⊢
  refine G.seq (G.seq (G.region (G.v (ba rfl) rfl (G.v (ba rfl) rfl (G.v (dk rfl rfl) rfl (G.I (G.E ?_))))))); refine G.bd rfl (fun hc => ?_) (fun hc => ?_); refine G.skip (G.E (G.block (G.seq (G.region (G.v (ba rfl) rfl (G.v (ba rfl) rfl (G.v (b6 rfl rfl) rfl (G.I (G.E ?_))))))))); refine G.bd rfl (fun hc => ?_) (fun hc => ?_); refine G.seq (G.region (G.v (ba rfl) rfl (G.v (ba rfl) rfl (G.v (ba rfl) rfl ?_)))); refine G.v (cI rfl rfl (by omega) (by omega)) rfl ?_; refine G.v (ba rfl) rfl (G.v (ba rfl) rfl (G.v (ba rfl) rfl ?_))
  (refine G.bb (v) rfl ?_); refine G.op (bO rfl rfl rfl (swapRange_any (by omega) (by omega) hn)) rfl ?_; rintro ⟨⟩ _; try dsimp only
  refine G.I (G.E (G.region (G.v (ba rfl) rfl (G.v (ba rfl) rfl ?_)))); refine G.v (cI rfl rfl (by omega) (by omega)) rfl ?_; refine G.v (bb rfl) rfl (G.I (G.bc ?_)); refine G.V (i - j, j, swapF g (m - i) m j) 0 rfl (.cons rfl (.cons rfl (.cons rfl (.nil)))) (⟨rfl, rfl, trivial⟩) ?_ ?_
  exact ⟨by dsimp only; omega, by dsimp only; omega, by dsimp only; omega, by dsimp only; omega, by dsimp only; rw [rot_big (by omega) (by omega)]; exact hg2⟩
  dsimp only; omega
  refine G.seq (G.region (G.v (ba rfl) rfl (G.v (ba rfl) rfl (G.v (ba rfl) rfl ?_)))); refine G.v (cI rfl rfl (by omega) (by omega)) rfl ?_; refine G.v (ba rfl) rfl (G.v (ba rfl) rfl ?_); refine G.v (cH rfl rfl (by omega)) rfl ?_; refine G.v (ba rfl) rfl ?_; refine G.v (cI rfl rfl (by omega) (by omega)) rfl ?_; refine G.v (ba rfl) rfl (G.v (ba rfl) rfl ?_)
  (refine G.bb (v) rfl ?_); refine G.op (bO rfl rfl rfl (swapRange_any (by omega) (by omega) hn)) rfl ?_; rintro ⟨⟩ _; try dsimp only
  refine G.I (G.E (G.region (G.v (ba rfl) rfl (G.v (ba rfl) rfl ?_)))); refine G.v (cI rfl rfl (by omega) (by omega)) rfl ?_; refine G.v (bb rfl) rfl (G.I (G.bc ?_)); refine G.V (i, j - i, swapF g (m - i) (m + j - i) i) 0 rfl (.cons rfl (.cons rfl (.cons rfl (.nil)))) (⟨rfl, rfl, trivial⟩) ?_ ?_
  exact ⟨by dsimp only; omega, by dsimp only; omega, by dsimp only; omega, by dsimp only; omega, by dsimp only; rw [rot_small (by omega) (by omega)]; exact hg2⟩
  dsimp only; omega
  refine G.exit (G.L (G.L (G.bn (G.E (G.region (G.v (ba rfl) rfl (G.v (ba rfl) rfl (G.v (ba rfl) rfl ?_)))))))); refine G.v (cI rfl rfl (by omega) (by omega)) rfl ?_; refine G.v (ba rfl) rfl (G.v (ba rfl) rfl (G.v (ba rfl) rfl ?_))
  (refine G.bb (v) rfl ?_); refine G.op (bO rfl rfl rfl (swapRange_any (by omega) (by omega) hn)) rfl ?_; rintro ⟨⟩ _; try dsimp only
  refine G.I ?_
  exact G.bC () trivial rfl rfl (fun w hw => by obtain rfl : i = j := (by omega); rw [rot_eq him, hg2] at hw; exact hw)
variable {g : Nat} [FnOk Tryz.prog g] {caps : List Value} {K : Nat → Int} {N : Nat}
theorem insertion_any {f : Nat → Nat} {a b : Nat} (hcmp : ∀ w, HeapOk w0 w F → ∀ i j : Nat, i < n → j < n → FnV Tryz.prog g ([.int .i64 (i : Int), .int .i64 (j : Int)] ++ caps) w (.int .i64 (cmpZ (K i) (K j)))) (h1 : a ≤ b) (h2 : b ≤ n) (hn : n ≤ 1048576) (hid : ∀ j, a ≤ j → j < b → f j = j) :
    FnMF Tryz.prog 242 [v, .int .i64 (a : Int), .int .i64 (b : Int), .func (.func g) #[] caps.toArray] w0 [.row v 3 1 (rowF n f)] F (fun f' : Nat → Nat => (∀ j, j < a ∨ b ≤ j → f' j = f j) ∧ Seg K a b f') (fun _ => .tuple #[]) (fun f' => [.row v 3 1 (rowF n f')]) := by
  refine FnMF.of (n := 53) Tryz.func242 rfl rfl ?_; refine G.seq (G.region (G.v (ba rfl) rfl ?_)); refine G.v (bp rfl rfl (by omega)) rfl ?_; refine G.v (bb rfl) rfl (G.I (G.E (G.block ?_))); refine G.Y (ι := Nat × (Nat → Nat)) (ks := [0, 1, 2, 3]) (fun x => [(8, .int .i64 (x.1 : Int))]) (fun x => [.row v 3 1 (rowF n x.2)]) (fun x => a + 1 ≤ x.1 ∧ x.1 ≤ b + 1 ∧ (∀ j, j < a ∨ b ≤ j ∨ x.1 ≤ j → x.2 j = f j) ∧ Seg K a (min x.1 b) x.2) (fun x => b - x.1) (a + 1, f) (.cons rfl (.cons rfl (.cons rfl (.cons rfl (.nil))))) rfl ?_ ?_ ?_
  exact ⟨Nat.le_refl _, by dsimp only; omega, fun _ _ => rfl, fun j k _ _ _ => by omega, fun j j1 j2 => by dsimp only at j2 ⊢; rw [hid j j1 (by omega)]; omega⟩
  exact ⟨rfl, trivial⟩
  rintro ⟨i, g0⟩ ⟨hai, hib, hout, hseg⟩
  dsimp only at hai hib hout hseg ⊢
  by_cases hlt : i < b
  case' pos => (have hgi0 : g0 i = i := (hout i (.inr (.inr (Nat.le_refl _)))).trans (hid i (by omega) hlt); rw [Nat.min_eq_left (by omega)] at hseg; have hgi : g0 i < n := (by omega))
  all_goals
   refine G.seq (G.seq (G.region (G.v (ba rfl) rfl (G.v (ba rfl) rfl (G.v (br rfl rfl) rfl (G.I (G.E ?_))))))); refine G.cond rfl (fun hc => ?_) (fun hc => ?_)
   · all_goals
      replace hc := of_decide_eq_true hc
      try (exfalso; omega)
      all_goals
       refine G.skip (G.E (G.seq (G.block (G.seq (G.region (G.v (ba rfl) rfl (G.v (bb rfl) rfl (G.I (G.E (G.block ?_)))))))))); refine G.bo (rowF n (rotF g0 i i (i + 1))) (by rw [rot_id (Nat.le_refl _) (by omega) (.inl rfl)]) rfl ?_; refine G.Y (ι := Nat) (ks := [0, 1, 2, 3, 8]) (fun j => [(9, .int .i64 (j : Int))]) (fun j => [.row v 3 1 (rowF n (rotF g0 j i (i + 1)))]) (fun j => a ≤ j ∧ j ≤ i ∧ (j = i ∨ K (g0 i) < K (g0 j))) (fun j => j) i (.cons rfl (.cons rfl (.cons rfl (.cons rfl (.cons rfl (.nil)))))) rfl ?_ ?_ ?_
       exact ⟨by omega, Nat.le_refl _, .inl rfl⟩
       exact ⟨rfl, trivial⟩
       rintro j ⟨haj, hji, hjr⟩
       have e1 : (rowF n (rotF g0 j i (i + 1)))[j]? = some (icell (g0 i : Int)) := by rw [cd (by omega), d6 (Nat.le_refl _) (by omega)]; congr 4; omega
       have e2 : a < j → (rowF n (rotF g0 j i (i + 1)))[j - 1]? = some (icell (g0 (j - 1) : Int)) := fun h => by rw [cd (by omega), cO hji (by omega) (.inl (by omega))]
       have hgj : a < j → g0 (j - 1) < n := fun h => by (have := hseg.2 (j - 1) (by omega) (by omega); omega)
       by_cases hja : a < j
       case' pos => (replace e2 := e2 hja; replace hgj := hgj hja)
       all_goals
        refine G.seq (G.seq ?_); refine G.ba [] ?_; refine GE.q 0 rfl (by as_aux_lemma => kernel_rfl) rfl (bc (ba rfl)) rfl ?_; refine GE.V 1 (by as_aux_lemma => kernel_rfl) rfl rfl (bd (ba rfl)) rfl (fun _ _ h => by exact h) (fun _ _ => ?_); refine GE.V 2 (by as_aux_lemma => kernel_rfl) rfl rfl (bd (b6 rfl rfl)) rfl (fun _ _ h => by exact h) (fun _ _ => ?_); refine GE.V 3 (by as_aux_lemma => kernel_rfl) rfl rfl (bd (ba rfl)) rfl (fun _ _ h => by exact h) (fun _ _ => ?_)
        all_goals (((with_reducible refine GE.part (t := 21) rfl (fun hg => ?_) (fun hg => ?_)) <;> (try exact Bool.noConfusion hg) <;> (try (exfalso; first | (have hq := of_decide_eq_false hg; omega) | (have hq := of_decide_eq_true hg; omega); done)) <;> (first | refine GE.q 4 rfl (by as_aux_lemma => kernel_rfl) rfl (bc (ba rfl)) rfl ?_ | refine GE.O 4 rfl (by as_aux_lemma => kernel_rfl) rfl rfl ?_)))
        all_goals ((first | refine GE.q 5 rfl (by as_aux_lemma => kernel_rfl) rfl (bc (ba rfl)) rfl ?_ | refine GE.O 5 rfl (by as_aux_lemma => kernel_rfl) rfl rfl ?_))
        all_goals ((first | refine GE.q 6 rfl (by as_aux_lemma => kernel_rfl) rfl (bc (ba rfl)) rfl ?_ | refine GE.O 6 rfl (by as_aux_lemma => kernel_rfl) rfl rfl ?_))
        all_goals ((first | (refine GE.q 7 rfl (by as_aux_lemma => kernel_rfl) rfl (bc (bg rfl rfl (by exact Rd.ba 0 rfl) rfl (by exact e1))) rfl ?_) | refine GE.O 7 rfl (by as_aux_lemma => kernel_rfl) rfl rfl ?_))
        all_goals ((first | refine GE.q 8 rfl (by as_aux_lemma => kernel_rfl) rfl (bc (bi rfl (by exact Rd.ba 0 rfl) (by exact e1) rfl)) rfl ?_ | refine GE.O 8 rfl (by as_aux_lemma => kernel_rfl) rfl rfl ?_))
        all_goals ((first | refine GE.q 9 rfl (by as_aux_lemma => kernel_rfl) rfl (bc (ba rfl)) rfl ?_ | refine GE.O 9 rfl (by as_aux_lemma => kernel_rfl) rfl rfl ?_))
        all_goals ((first | refine GE.q 10 rfl (by as_aux_lemma => kernel_rfl) rfl (bc (ba rfl)) rfl ?_ | refine GE.O 10 rfl (by as_aux_lemma => kernel_rfl) rfl rfl ?_))
        all_goals ((first | (refine GE.q 11 rfl (by as_aux_lemma => kernel_rfl) rfl (bc (cq rfl rfl (by omega) (by omega))) rfl ?_) | refine GE.O 11 rfl (by as_aux_lemma => kernel_rfl) rfl rfl ?_))
        all_goals ((first | (refine GE.q 12 rfl (by as_aux_lemma => kernel_rfl) rfl (bc (bg rfl rfl (by exact Rd.ba 0 rfl) rfl (by exact e2))) rfl ?_) | refine GE.O 12 rfl (by as_aux_lemma => kernel_rfl) rfl rfl ?_))
        all_goals ((first | refine GE.q 13 rfl (by as_aux_lemma => kernel_rfl) rfl (bc (bi rfl (by exact Rd.ba 0 rfl) (by first | exact e1 | exact e2) rfl)) rfl ?_ | refine GE.O 13 rfl (by as_aux_lemma => kernel_rfl) rfl rfl ?_))
        all_goals ((first | refine GE.q 14 rfl (by as_aux_lemma => kernel_rfl) rfl (cY rfl rfl (fun w hh => hcmp w hh.tail _ _ hgi (by exact hgj))) rfl ?_ | refine GE.O 14 rfl (by as_aux_lemma => kernel_rfl) rfl rfl ?_))
        all_goals ((first | refine GE.q 15 rfl (by as_aux_lemma => kernel_rfl) rfl (bc (br rfl rfl)) rfl ?_ | refine GE.O 15 rfl (by as_aux_lemma => kernel_rfl) rfl rfl ?_))
        all_goals ((first | refine GE.V 16 (by as_aux_lemma => kernel_rfl) rfl rfl (bd (bk rfl rfl)) rfl (fun _ _ h => by exact h) (fun _ _ => ?_) | refine GE.V 16 (by as_aux_lemma => kernel_rfl) rfl rfl (bd (bm rfl rfl)) rfl (fun _ _ h => by exact h) (fun _ _ => ?_)))
        all_goals
         refine GE.E (by as_aux_lemma => kernel_rfl) ?_; refine G.E ?_; refine G.cond rfl (fun hc => ?_) (fun hc => ?_)
         · try exact Bool.noConfusion hc
           all_goals
            replace hc := of_decide_eq_true hc
            simp only [ce] at hc
            all_goals
             refine G.skip (G.E (G.seq (G.block ?_))); refine G.drawS [15, 17] rfl ?_; refine GS.p 0 rfl (by as_aux_lemma => kernel_rfl) (bc (ba rfl)) (fun _ h => h.drop 1) rfl ?_; refine GS.p 1 rfl (by as_aux_lemma => kernel_rfl) (bc (ba rfl)) (fun _ h => h.drop 1) rfl ?_; refine GS.p 2 rfl (by as_aux_lemma => kernel_rfl) (bc (ba rfl)) (fun _ h => h.drop 1) rfl ?_; refine GS.p 3 rfl (by as_aux_lemma => kernel_rfl) (bc (ba rfl)) (fun _ h => h.drop 1) rfl ?_; refine GS.p 4 rfl (by as_aux_lemma => kernel_rfl) (bc (cq rfl rfl (by omega) (by omega))) (fun _ h => h.drop 1) rfl ?_; refine GS.p 5 rfl (by as_aux_lemma => kernel_rfl) (bc (ba rfl)) (fun _ h => h.drop 1) rfl ?_; refine GS.p 6 rfl (by as_aux_lemma => kernel_rfl) (bc (ba rfl)) (fun _ h => h.drop 1) rfl ?_; refine GS.p 7 rfl (by as_aux_lemma => kernel_rfl) (bc (cq rfl rfl (by omega) (by omega))) (fun _ h => h.drop 1) rfl ?_; refine GS.q 8 [9, 14, 15, 16, 17] rfl (by as_aux_lemma => kernel_rfl) (by as_aux_lemma => kernel_rfl) (bc (bg rfl rfl (by exact Rd.ba 0 rfl) rfl (by exact e2))) rfl ?_; refine GS.q 9 [14, 15, 16, 17] rfl (by as_aux_lemma => kernel_rfl) (by as_aux_lemma => kernel_rfl) (bc (bi rfl (by exact Rd.ba 0 rfl) (by exact e2) rfl)) rfl ?_; refine GS.p 10 rfl (by as_aux_lemma => kernel_rfl) (bc (ba rfl)) (fun _ h => h.drop 1) rfl ?_
             refine GS.p 11 rfl (by as_aux_lemma => kernel_rfl) (bc (ba rfl)) (fun _ h => h.drop 1) rfl ?_; refine GS.q 12 [13, 14, 15, 16, 17] rfl (by as_aux_lemma => kernel_rfl) (by as_aux_lemma => kernel_rfl) (bc (bg rfl rfl (by exact Rd.ba 0 rfl) rfl (by exact e1))) rfl ?_; refine GS.q 13 [14, 15, 16, 17] rfl (by as_aux_lemma => kernel_rfl) (by as_aux_lemma => kernel_rfl) (bc (bi rfl (by exact Rd.ba 0 rfl) (by exact e1) rfl)) rfl ?_; refine GS.q 14 [15, 16, 17] rfl (by as_aux_lemma => kernel_rfl) (by as_aux_lemma => kernel_rfl) (bc (bg rfl rfl (by exact Rd.ba 0 rfl) rfl (by exact e1))) rfl ?_; refine GS.o0 15 (by as_aux_lemma => kernel_rfl) rfl rfl (cR rfl rfl rfl (by exact e1) rfl rfl rfl rfl (.zero (.cons .nil))) (fun _ _ h => h.drop 1) (fun _ _ => ?_); refine GS.q 16 [17] rfl (by as_aux_lemma => kernel_rfl) (by as_aux_lemma => kernel_rfl) (bc (bg rfl rfl (by exact Rd.ba 0 rfl) rfl (by exact cW (by omega) e2))) rfl ?_; refine GS.o0 17 (by as_aux_lemma => kernel_rfl) rfl rfl (cR rfl rfl rfl (by exact cW (by omega) e2) rfl rfl rfl rfl (.zero (.cons .nil))) (fun _ _ h => h.drop 1) (fun _ _ => ?_); refine GS.done (by as_aux_lemma => kernel_rfl) ?_; refine G.bc (G.E (G.region (G.v (ba rfl) rfl ?_))); refine G.v (cq rfl rfl (by omega) (by omega)) rfl ?_; refine G.v (bb rfl) rfl (G.I ?_)
             refine G.V (j - 1) 0 (bV (congrArg (fun z => Ch.row v 3 1 z) (by obtain ⟨q, rfl⟩ : ∃ q, j = q + 1 := ⟨j - 1, by omega⟩; exact row_dn (by omega)))) (.cons rfl (.cons rfl (.cons rfl (.cons rfl (.cons rfl (.nil)))))) ?_ ?_ ?_
             exact ⟨rfl, trivial⟩
             exact ⟨by omega, by omega, .inr hc⟩
             omega
         · all_goals
            try replace hc := of_decide_eq_false hc
            simp only [ce] at hc
            all_goals
             refine G.exit (G.L (G.L (G.bn (G.bc (G.E (G.region (G.v (ba rfl) rfl ?_))))))); refine G.v (bp rfl rfl (by omega)) rfl ?_; refine G.v (bb rfl) rfl (G.I ?_); refine G.V (i + 1, rotF g0 j i (i + 1)) 0 rfl (.cons rfl (.cons rfl (.cons rfl (.cons rfl (.nil))))) ?_ ?_ ?_
             exact ⟨rfl, trivial⟩
             refine ⟨by dsimp only; omega, by dsimp only; omega, fun l hl => ?_, ?_⟩
             dsimp only at hl ⊢; rw [cO hji (by omega) (by omega)]; exact hout l (by omega)
             dsimp only; rw [Nat.min_eq_left (by omega)]; exact ins_next hseg hgi0 haj hji (by first | exact .inl (by omega) | exact .inr hc) hjr
             dsimp only; omega
   · all_goals
      replace hc := of_decide_eq_false hc
      try (exfalso; omega)
      all_goals
       refine G.exit (G.L (G.L (G.bn ?_)))
       exact G.bC g0 ⟨fun j hj => hout j (by omega), by rw [Nat.min_eq_right (by omega)] at hseg; exact hseg⟩ rfl rfl (fun w hw => hw)
end
end Go.Proofs.YtglpgohilfoecaaGreat

/-
  Short lists that are sorted: the library's insertion, the reference's merging.
-/
namespace Go.Proofs.YtglpgohilfoecaaGreat
open Go.RowKit
theorem bytes_get {s : ByteArray} {m : Nat} (h : m < s.size) : s[m]? = some (s[m]'h) := getElem?_pos s m h
theorem wrap_small {k : IntKind} {p : Int} (h0 : 0 ≤ p) (h1 : p ≤ 12) : k.wrap p = p := by
  obtain ⟨m, rfl⟩ : ∃ m : Nat, p = m := ⟨p.toNat, by omega⟩
  have : m ≤ 12 := by omega
  match m, this with
  | 0, _ | 1, _ | 2, _ | 3, _ | 4, _ | 5, _ | 6, _ | 7, _ | 8, _ | 9, _ | 10, _ | 11, _ | 12, _ => cases k <;> rfl
  | m + 13, h => omega
section
variable {P : Program} {n : Nat} {w0 : World} {fr : Fr} {H : List Ch} {x y : Operand} {t t' : TypeId} {k : IntKind} {p : Int}
theorem rv_convS {src dst : TypeId} {k2 : IntKind} [hs : TyInt P src k] [hd : TyInt P dst k2] (hx : opv fr x = some (.int k p)) (h0 : 0 ≤ p) (h1 : p ≤ 12) : RunsV P n w0 fr H (.convert src dst x) (.int k2 p) := by
  have := du (P := P) (n := n) (w0 := w0) (H := H) (src := src) (dst := dst) (k2 := k2) hx
  rwa [wrap_small h0 h1] at this
theorem rv_indexS {s : ByteArray} (hT : P.underlying t = some .string) (hx : opv fr x = some (.string s)) (hy : opv fr y = some (.int k p)) (h0 : 0 ≤ p) {b : UInt8} (hb : s[p.toNat]? = some b) : RunsV P n w0 fr H (.index t x y) (.int .u8 b.toNat) := fun a w hr _ _ _ _ _ _ => by
  simp [execOp, hr.opv hx, hr.opv hy, Instr.index, asIntOf, run_underlying hT, h0, hb]
end
attribute [local irreducible] Go.wpList Go.Code.wp Go.Exit.then Go.Exit.inBlock Go.bodyPost Go.Calls pE pB G RunsV FnV Fn FnM
set_option maxRecDepth 100000
set_option maxHeartbeats 4000000
def keyU (ks : List Int) (j : Nat) : Int := (ks[j]?).getD 0
theorem dX {ks : List Int} {j : Nat} {a : Int} (h : ks[j]? = some a) : keyU ks j = a := by rw [keyU, h]; rfl
def sortM (ks : List Int) : List Int := (ordM (keyU ks) ks.length).map (keyU ks)
theorem cB (ks : List Int) : (sortM ks).length = ks.length := by rw [sortM, List.length_map, cP]
theorem range_key (ks : List Int) : (List.range ks.length).map (keyU ks) = ks := by
  apply List.ext_getElem (by simp)
  intro i h1 h2
  rw [List.getElem_map, List.getElem_range, dX (List.getElem?_eq_getElem h2)]
theorem co (ks : List Int) : (sortM ks).Perm ks := by
  have := (dV (keyU ks) ks.length).map (keyU ks)
  rwa [range_key] at this
theorem dY (ks : List Int) : (sortM ks).Pairwise (· ≤ ·) := by
  rw [sortM, List.pairwise_map]
  exact (ordM_srt (keyU ks) ks.length).imp (fun h => by unfold bef at h; omega)
def rowK (n : Nat) (K : Nat → Int) (f : Nat → Nat) : List (List Value) := (List.range n).map fun j => icell (K (f j))
theorem rowK_len (n : Nat) (K : Nat → Int) (f : Nat → Nat) : (rowK n K f).length = n := by simp [rowK]
theorem rowK_get {n k : Nat} {K : Nat → Int} {f : Nat → Nat} (h : k < n) : (rowK n K f)[k]? = some (icell (K (f k))) := by
  simp [rowK, h]
theorem rowK_set {n k z : Nat} {K : Nat → Int} {f : Nat → Nat} : (rowK n K f).set k (icell (K z)) = rowK n K (upd f k z) := by
  apply List.ext_getElem?
  intro j
  rw [List.getElem?_set]
  by_cases hj : j < n
  · rw [rowK_get (f := upd f k z) hj]
    by_cases h : k = j
    · subst h; simp [rowK_len, hj, upd]
    · rw [if_neg h, rowK_get hj]; simp [upd, Ne.symm h]
  · rw [List.getElem?_eq_none (l := rowK n K (upd f k z)) (by rw [rowK_len]; omega), List.getElem?_eq_none (l := rowK n K f) (by rw [rowK_len]; omega), rowK_len]
    split
    · rw [if_neg (by omega)]
    · rfl
theorem rowK_dn {n m k : Nat} {K : Nat → Int} {f : Nat → Nat} (h : k < m) : ((rowK n K (rotF f (k + 1) m (m + 1))).set (k + 1) (icell (K (f k)))).set k (icell (K (f m))) = rowK n K (rotF f k m (m + 1)) := by
  have e1 : rotF f (k + 1) m (m + 1) k = f k := cO (by omega) (by omega) (.inl (by omega))
  have e2 : rotF f (k + 1) m (m + 1) (k + 1) = f m := by
    rw [d6 (by omega) (by omega)]; congr 1; omega
  have := rot_dn (f := f) h
  rw [e1, e2] at this
  rw [rowK_set, rowK_set, this]
theorem rowK_list (ks : List Int) : rowK ks.length (keyU ks) (fun j => j) = ks.map icell := by
  have := congrArg (List.map icell) (range_key ks)
  rw [List.map_map] at this
  exact this
theorem rowK_seg {ks : List Int} {f : Nat → Nat} (h : Seg (keyU ks) 0 ks.length f) : rowK ks.length (keyU ks) f = (sortM ks).map icell := by
  have e : (List.range ks.length).map f = ordM (keyU ks) ks.length := by
    refine ord_of_srt ?_ (by simp) (fun x hx => ?_)
    · rw [List.pairwise_iff_getElem]
      intro i j hi hj hij
      simp only [List.getElem_map, List.getElem_range]
      exact h.1 i j (Nat.zero_le _) hij (by simpa using hj)
    · obtain ⟨j, hj, rfl⟩ := List.mem_map.1 hx
      exact (h.2 j (Nat.zero_le _) (List.mem_range.1 hj)).2
  rw [sortM, ← e, List.map_map, List.map_map]; rfl
theorem isNaN_any (a : Int) (w : World) : FnV Tryz.prog 234 [.int .i64 a] w (.bool false) := by
  refine FnV.of (n := 6) Tryz.func234 rfl rfl ?_; refine G.seq (G.region (G.v (bb rfl) rfl (G.I (G.E (G.seq (G.region (G.v (ba rfl) rfl (G.v (ba rfl) rfl (G.v (dk rfl rfl) rfl (G.v (bb rfl) rfl (G.I ?_))))))))))); refine G.E (G.ret ?_)
  exact G.U rfl rfl (congrArg Value.bool (by simp))
theorem less_any (a b : Int) (w : World) : FnV Tryz.prog 188 [.int .i64 a, .int .i64 b] w (.bool (decide (a < b))) := by
  refine FnV.of (n := 17) Tryz.func188 rfl rfl ?_; refine G.seq (G.region (G.v (bb rfl) rfl (G.I (G.E (G.seq (G.region (G.v (ba rfl) rfl ?_))))))); refine G.op (bh rfl rfl (fun w _ => isNaN_any _ w)) rfl (fun _ _ => ?_); refine G.v (ba rfl) rfl ?_
  (with_reducible refine G.gP rfl rfl (fun hg => ?_) (fun hg => ?_)) <;> (try exact Bool.noConfusion hg) <;> (refine G.gN rfl rfl rfl ?_)
  refine G.gN rfl rfl rfl ?_; refine G.gN rfl rfl rfl ?_; refine G.v (bm rfl rfl) rfl (G.v (ba rfl) rfl ?_)
  (with_reducible refine G.gP rfl rfl (fun hg => ?_) (fun hg => ?_)) <;> (try exact Bool.noConfusion hg) <;> ((refine G.gY rfl rfl ?_; refine G.v (ba rfl) rfl ?_))
  refine G.gY rfl rfl ?_; refine G.v (ba rfl) rfl ?_; refine G.gY rfl rfl ?_; refine G.v (br rfl rfl) rfl (G.v (bm rfl rfl) rfl (G.v (bb rfl) rfl (G.I (G.E (G.ret ?_)))))
  exact G.U rfl rfl rfl
section
variable {w0 : World} {F : List Ch} {v u : Value} {n : Nat} {K : Nat → Int}
theorem insOrd_any {f : Nat → Nat} {a b : Nat} (h1 : a ≤ b) (h2 : b ≤ n) (hn : n ≤ 1048576) (hid : ∀ j, a ≤ j → j < b → f j = j) :
    FnMF Tryz.prog 182 [v, .int .i64 (a : Int), .int .i64 (b : Int)] w0 [.row v 3 1 (rowK n K f)] F (fun f' : Nat → Nat => (∀ j, j < a ∨ b ≤ j → f' j = f j) ∧ Seg K a b f') (fun _ => .tuple #[]) (fun f' => [.row v 3 1 (rowK n K f')]) := by
  refine FnMF.of (n := 49) Tryz.func182 rfl rfl ?_; refine G.seq (G.region (G.v (ba rfl) rfl ?_)); refine G.v (bp rfl rfl (by omega)) rfl ?_; refine G.v (bb rfl) rfl (G.I (G.E (G.block ?_))); refine G.Y (ι := Nat × (Nat → Nat)) (ks := [0, 1, 2]) (fun x => [(6, .int .i64 (x.1 : Int))]) (fun x => [.row v 3 1 (rowK n K x.2)]) (fun x => a + 1 ≤ x.1 ∧ x.1 ≤ b + 1 ∧ (∀ j, j < a ∨ b ≤ j ∨ x.1 ≤ j → x.2 j = f j) ∧ Seg K a (min x.1 b) x.2) (fun x => b - x.1) (a + 1, f) (.cons rfl (.cons rfl (.cons rfl (.nil)))) rfl ?_ ?_ ?_
  exact ⟨Nat.le_refl _, by dsimp only; omega, fun _ _ => rfl, fun j k _ _ _ => by omega, fun j j1 j2 => by dsimp only at j2 ⊢; rw [hid j j1 (by omega)]; omega⟩
  exact ⟨rfl, trivial⟩
  rintro ⟨i, g0⟩ ⟨hai, hib, hout, hseg⟩
  dsimp only at hai hib hout hseg ⊢
  by_cases hlt : i < b
  case' pos => (have hgi0 : g0 i = i := (hout i (.inr (.inr (Nat.le_refl _)))).trans (hid i (by omega) hlt); rw [Nat.min_eq_left (by omega)] at hseg)
  all_goals
   refine G.seq (G.seq (G.region (G.v (ba rfl) rfl (G.v (ba rfl) rfl (G.v (br rfl rfl) rfl (G.I (G.E ?_))))))); refine G.cond rfl (fun hc => ?_) (fun hc => ?_)
   · all_goals
      replace hc := of_decide_eq_true hc
      try (exfalso; omega)
      all_goals
       refine G.skip (G.E (G.seq (G.block (G.seq (G.region (G.v (ba rfl) rfl (G.v (bb rfl) rfl (G.I (G.E (G.block ?_)))))))))); refine G.bo (rowK n K (rotF g0 i i (i + 1))) (by rw [rot_id (Nat.le_refl _) (by omega) (.inl rfl)]) rfl ?_; refine G.Y (ι := Nat) (ks := [0, 1, 2, 6]) (fun j => [(7, .int .i64 (j : Int))]) (fun j => [.row v 3 1 (rowK n K (rotF g0 j i (i + 1)))]) (fun j => a ≤ j ∧ j ≤ i ∧ (j = i ∨ K (g0 i) < K (g0 j))) (fun j => j) i (.cons rfl (.cons rfl (.cons rfl (.cons rfl (.nil))))) rfl ?_ ?_ ?_
       exact ⟨by omega, Nat.le_refl _, .inl rfl⟩
       exact ⟨rfl, trivial⟩
       rintro j ⟨haj, hji, hjr⟩
       have e1 : (rowK n K (rotF g0 j i (i + 1)))[j]? = some (icell (K (g0 i))) := by rw [rowK_get (by omega), d6 (Nat.le_refl _) (by omega)]; congr 4; omega
       have e2 : a < j → (rowK n K (rotF g0 j i (i + 1)))[j - 1]? = some (icell (K (g0 (j - 1)))) := fun h => by rw [rowK_get (by omega), cO hji (by omega) (.inl (by omega))]
       by_cases hja : a < j
       case' pos => (replace e2 := e2 hja)
       all_goals
        refine G.seq (G.seq ?_); refine G.ba [] ?_; refine GE.q 0 rfl (by as_aux_lemma => kernel_rfl) rfl (bc (ba rfl)) rfl ?_; refine GE.V 1 (by as_aux_lemma => kernel_rfl) rfl rfl (bd (ba rfl)) rfl (fun _ _ h => by exact h) (fun _ _ => ?_); refine GE.V 2 (by as_aux_lemma => kernel_rfl) rfl rfl (bd (b6 rfl rfl)) rfl (fun _ _ h => by exact h) (fun _ _ => ?_); refine GE.V 3 (by as_aux_lemma => kernel_rfl) rfl rfl (bd (ba rfl)) rfl (fun _ _ h => by exact h) (fun _ _ => ?_)
        all_goals (((with_reducible refine GE.part (t := 19) rfl (fun hg => ?_) (fun hg => ?_)) <;> (try exact Bool.noConfusion hg) <;> (try (exfalso; first | (have hq := of_decide_eq_false hg; omega) | (have hq := of_decide_eq_true hg; omega); done)) <;> (first | refine GE.q 4 rfl (by as_aux_lemma => kernel_rfl) rfl (bc (ba rfl)) rfl ?_ | refine GE.O 4 rfl (by as_aux_lemma => kernel_rfl) rfl rfl ?_)))
        all_goals ((first | refine GE.q 5 rfl (by as_aux_lemma => kernel_rfl) rfl (bc (ba rfl)) rfl ?_ | refine GE.O 5 rfl (by as_aux_lemma => kernel_rfl) rfl rfl ?_))
        all_goals ((first | (refine GE.q 6 rfl (by as_aux_lemma => kernel_rfl) rfl (bc (bg rfl rfl (by exact Rd.ba 0 rfl) rfl (by exact e1))) rfl ?_) | refine GE.O 6 rfl (by as_aux_lemma => kernel_rfl) rfl rfl ?_))
        all_goals ((first | refine GE.q 7 rfl (by as_aux_lemma => kernel_rfl) rfl (bc (bi rfl (by exact Rd.ba 0 rfl) (by exact e1) rfl)) rfl ?_ | refine GE.O 7 rfl (by as_aux_lemma => kernel_rfl) rfl rfl ?_))
        all_goals ((first | refine GE.q 8 rfl (by as_aux_lemma => kernel_rfl) rfl (bc (ba rfl)) rfl ?_ | refine GE.O 8 rfl (by as_aux_lemma => kernel_rfl) rfl rfl ?_))
        all_goals ((first | refine GE.q 9 rfl (by as_aux_lemma => kernel_rfl) rfl (bc (ba rfl)) rfl ?_ | refine GE.O 9 rfl (by as_aux_lemma => kernel_rfl) rfl rfl ?_))
        all_goals ((first | (refine GE.q 10 rfl (by as_aux_lemma => kernel_rfl) rfl (bc (cq rfl rfl (by omega) (by omega))) rfl ?_) | refine GE.O 10 rfl (by as_aux_lemma => kernel_rfl) rfl rfl ?_))
        all_goals ((first | (refine GE.q 11 rfl (by as_aux_lemma => kernel_rfl) rfl (bc (bg rfl rfl (by exact Rd.ba 0 rfl) rfl (by exact e2))) rfl ?_) | refine GE.O 11 rfl (by as_aux_lemma => kernel_rfl) rfl rfl ?_))
        all_goals ((first | refine GE.q 12 rfl (by as_aux_lemma => kernel_rfl) rfl (bc (bi rfl (by exact Rd.ba 0 rfl) (by first | exact e1 | exact e2) rfl)) rfl ?_ | refine GE.O 12 rfl (by as_aux_lemma => kernel_rfl) rfl rfl ?_))
        all_goals ((first | refine GE.q 13 rfl (by as_aux_lemma => kernel_rfl) rfl (cY rfl rfl (fun w _ => less_any _ _ w)) rfl ?_ | refine GE.O 13 rfl (by as_aux_lemma => kernel_rfl) rfl rfl ?_))
        all_goals ((first | refine GE.V 14 (by as_aux_lemma => kernel_rfl) rfl rfl (bd (bk rfl rfl)) rfl (fun _ _ h => by exact h) (fun _ _ => ?_) | refine GE.V 14 (by as_aux_lemma => kernel_rfl) rfl rfl (bd (bm rfl rfl)) rfl (fun _ _ h => by exact h) (fun _ _ => ?_)))
        all_goals
         refine GE.E (by as_aux_lemma => kernel_rfl) ?_; refine G.E ?_; refine G.cond rfl (fun hc => ?_) (fun hc => ?_)
         · try exact Bool.noConfusion hc
           all_goals
            replace hc := of_decide_eq_true hc
            all_goals
             refine G.skip (G.E (G.seq (G.block ?_))); refine G.drawS [15, 17] rfl ?_; refine GS.p 0 rfl (by as_aux_lemma => kernel_rfl) (bc (ba rfl)) (fun _ h => h.drop 1) rfl ?_; refine GS.p 1 rfl (by as_aux_lemma => kernel_rfl) (bc (ba rfl)) (fun _ h => h.drop 1) rfl ?_; refine GS.p 2 rfl (by as_aux_lemma => kernel_rfl) (bc (ba rfl)) (fun _ h => h.drop 1) rfl ?_; refine GS.p 3 rfl (by as_aux_lemma => kernel_rfl) (bc (ba rfl)) (fun _ h => h.drop 1) rfl ?_; refine GS.p 4 rfl (by as_aux_lemma => kernel_rfl) (bc (cq rfl rfl (by omega) (by omega))) (fun _ h => h.drop 1) rfl ?_; refine GS.p 5 rfl (by as_aux_lemma => kernel_rfl) (bc (ba rfl)) (fun _ h => h.drop 1) rfl ?_; refine GS.p 6 rfl (by as_aux_lemma => kernel_rfl) (bc (ba rfl)) (fun _ h => h.drop 1) rfl ?_; refine GS.p 7 rfl (by as_aux_lemma => kernel_rfl) (bc (cq rfl rfl (by omega) (by omega))) (fun _ h => h.drop 1) rfl ?_; refine GS.q 8 [9, 14, 15, 16, 17] rfl (by as_aux_lemma => kernel_rfl) (by as_aux_lemma => kernel_rfl) (bc (bg rfl rfl (by exact Rd.ba 0 rfl) rfl (by exact e2))) rfl ?_; refine GS.q 9 [14, 15, 16, 17] rfl (by as_aux_lemma => kernel_rfl) (by as_aux_lemma => kernel_rfl) (bc (bi rfl (by exact Rd.ba 0 rfl) (by exact e2) rfl)) rfl ?_; refine GS.p 10 rfl (by as_aux_lemma => kernel_rfl) (bc (ba rfl)) (fun _ h => h.drop 1) rfl ?_
             refine GS.p 11 rfl (by as_aux_lemma => kernel_rfl) (bc (ba rfl)) (fun _ h => h.drop 1) rfl ?_; refine GS.q 12 [13, 14, 15, 16, 17] rfl (by as_aux_lemma => kernel_rfl) (by as_aux_lemma => kernel_rfl) (bc (bg rfl rfl (by exact Rd.ba 0 rfl) rfl (by exact e1))) rfl ?_; refine GS.q 13 [14, 15, 16, 17] rfl (by as_aux_lemma => kernel_rfl) (by as_aux_lemma => kernel_rfl) (bc (bi rfl (by exact Rd.ba 0 rfl) (by exact e1) rfl)) rfl ?_; refine GS.q 14 [15, 16, 17] rfl (by as_aux_lemma => kernel_rfl) (by as_aux_lemma => kernel_rfl) (bc (bg rfl rfl (by exact Rd.ba 0 rfl) rfl (by exact e1))) rfl ?_; refine GS.o0 15 (by as_aux_lemma => kernel_rfl) rfl rfl (cR rfl rfl rfl (by exact e1) rfl rfl rfl rfl (.zero (.cons .nil))) (fun _ _ h => h.drop 1) (fun _ _ => ?_); refine GS.q 16 [17] rfl (by as_aux_lemma => kernel_rfl) (by as_aux_lemma => kernel_rfl) (bc (bg rfl rfl (by exact Rd.ba 0 rfl) rfl (by exact cW (by omega) e2))) rfl ?_; refine GS.o0 17 (by as_aux_lemma => kernel_rfl) rfl rfl (cR rfl rfl rfl (by exact cW (by omega) e2) rfl rfl rfl rfl (.zero (.cons .nil))) (fun _ _ h => h.drop 1) (fun _ _ => ?_); refine GS.done (by as_aux_lemma => kernel_rfl) ?_; refine G.bc (G.E (G.region (G.v (ba rfl) rfl ?_))); refine G.v (cq rfl rfl (by omega) (by omega)) rfl ?_; refine G.v (bb rfl) rfl (G.I ?_)
             refine G.V (j - 1) 0 (bV (congrArg (fun z => Ch.row v 3 1 z) (by obtain ⟨q, rfl⟩ : ∃ q, j = q + 1 := ⟨j - 1, by omega⟩; exact rowK_dn (by omega)))) (.cons rfl (.cons rfl (.cons rfl (.cons rfl (.nil))))) ?_ ?_ ?_
             exact ⟨rfl, trivial⟩
             exact ⟨by omega, by omega, .inr (by simpa using hc)⟩
             omega
         · all_goals
            try replace hc := of_decide_eq_false hc
            all_goals
             refine G.exit (G.L (G.L (G.bn (G.bc (G.E (G.region (G.v (ba rfl) rfl ?_))))))); refine G.v (bp rfl rfl (by omega)) rfl ?_; refine G.v (bb rfl) rfl (G.I ?_); refine G.V (i + 1, rotF g0 j i (i + 1)) 0 rfl (.cons rfl (.cons rfl (.cons rfl (.nil)))) ?_ ?_ ?_
             exact ⟨rfl, trivial⟩
             refine ⟨by dsimp only; omega, by dsimp only; omega, fun l hl => ?_, ?_⟩
             dsimp only at hl ⊢; rw [cO hji (by omega) (by omega)]; exact hout l (by omega)
             dsimp only; rw [Nat.min_eq_left (by omega)]; exact ins_next hseg hgi0 haj hji (by first | exact .inl (by omega) | exact .inr (by simpa using hc)) hjr
             dsimp only; omega
   · all_goals
      replace hc := of_decide_eq_false hc
      try (exfalso; omega)
      all_goals
       refine G.exit (G.L (G.L (G.bn ?_)))
       exact G.bC g0 ⟨fun j hj => hout j (by omega), by rw [Nat.min_eq_right (by omega)] at hseg; exact hseg⟩ rfl rfl (fun w hw => hw)
theorem len64_any {p : Int} (w : World) (h0 : 0 ≤ p) (h1 : p ≤ 12) : Fn Tryz.prog 192 [.int .u64 p] w (fun _ : Int => True) (fun z => .int .i64 z) (fun _ => []) := by
  refine Fn.of (n := 25) Tryz.func192 rfl rfl ?_; refine G.seq (G.region (G.v (bb rfl) rfl (G.I (G.E (G.seq (G.seq (G.region (G.v (ba rfl) rfl (G.v (cu rfl rfl) rfl (G.I (G.E ?_))))))))))); refine G.bd rfl (fun hc => ?_) (fun hc => ?_)
  exfalso; omega
  refine G.skip (G.E (G.seq (G.seq (G.region (G.v (ba rfl) rfl (G.v (cu rfl rfl) rfl (G.I (G.E ?_)))))))); refine G.bd rfl (fun hc => ?_) (fun hc => ?_)
  exfalso; omega
  refine G.skip (G.E (G.seq (G.seq (G.region (G.v (ba rfl) rfl (G.v (cu rfl rfl) rfl (G.I (G.E ?_)))))))); refine G.bd rfl (fun hc => ?_) (fun hc => ?_)
  exfalso; omega
  refine G.skip (G.E (G.seq (G.region (G.v (ba rfl) rfl (G.v (ba rfl) rfl ?_))))); refine G.v (rv_convS rfl h0 h1) rfl ?_; refine G.v (rv_indexS (by kernel_rfl) rfl rfl h0 (bytes_get (Nat.lt_of_le_of_lt (show p.toNat ≤ 12 by omega) (by decide)))) rfl ?_; refine G.v (du rfl) rfl ?_; refine G.v (df rfl rfl) rfl ?_; refine G.v (bb rfl) rfl (G.I (G.E (G.ret ?_)))
  exact G.bg _ trivial rfl rfl rfl (fun w h => h.none)
theorem bitsLen_any {p : Int} (w : World) (h0 : 0 ≤ p) (h1 : p ≤ 12) : Fn Tryz.prog 131 [.int .u64 p] w (fun _ : Int => True) (fun z => .int .i64 z) (fun _ => []) := by
  refine Fn.of (n := 8) Tryz.func131 rfl rfl ?_; refine G.seq (G.region (G.v (bb rfl) rfl (G.I (G.E (G.seq ?_))))); refine G.cond rfl (fun hc => ?_) (fun hc => ?_)
  exact Bool.noConfusion hc
  refine G.skip (G.E (G.seq (G.region (G.v (ba rfl) rfl ?_)))); refine G.op (bT rfl rfl (fun w hh => len64_any w h0 h1)) rfl ?_; rintro z hz; try dsimp only
  refine G.v (bb rfl) rfl (G.I (G.E (G.ret ?_)))
  exact G.bg _ trivial rfl rfl rfl (fun w h => h.none)
theorem pdq_any {lim : Int} (h2 : n ≤ 12) :
    FnMF Tryz.prog 130 [v, .int .i64 0, .int .i64 (n : Int), .int .i64 lim] w0 [.row v 3 1 (rowK n K (fun j => j))] F (fun f' : Nat → Nat => Seg K 0 n f') (fun _ => .tuple #[]) (fun f' => [.row v 3 1 (rowK n K f')]) := by
  refine FnMF.of (n := 134) Tryz.func130 rfl rfl ?_; refine G.seq (G.region (G.v (bb rfl) rfl (G.I (G.E (G.seq (G.region (G.v (bb rfl) rfl (G.I (G.E (G.block ?_)))))))))); refine G.Y (ι := Unit) (ks := [0]) (fun _ => [(1, .int .i64 0), (2, .int .i64 (n : Int)), (3, .int .i64 lim), (8, .bool true), (9, .bool true)]) (fun _ => [.row v 3 1 (rowK n K (fun j => j))]) (fun _ => True) (fun _ => 0) () (.cons rfl (.nil)) rfl ?_ ?_ ?_
  exact trivial
  exact ⟨rfl, rfl, rfl, rfl, rfl, trivial⟩
  rintro i hi
  skip
  refine G.block (G.seq (G.region (G.v (ba rfl) rfl (G.v (ba rfl) rfl ?_)))); refine G.v (b8 rfl rfl (by omega) (by omega)) rfl ?_; refine G.v (bb rfl) rfl (G.I (G.E (G.seq (G.seq (G.region (G.v (ba rfl) rfl (G.v (ci rfl rfl) rfl (G.I (G.E ?_))))))))); refine G.bd rfl (fun hc => ?_) (fun hc => ?_); refine G.seq (G.region (G.v (ba rfl) rfl (G.v (ba rfl) rfl (G.v (ba rfl) rfl ?_))))
  (refine G.bb (v) rfl ?_); refine G.op (bO rfl rfl rfl (insOrd_any (Nat.zero_le _) (Nat.le_refl _) (by omega) (fun j _ _ => rfl))) rfl ?_; rintro f1 hf1; try dsimp only
  refine G.I (G.E (G.ret (G.O (G.bq (G.O (G.bq ?_))))))
  exact G.retF0 f1 hf1.2 rfl rfl (fun w hw => hw)
  exfalso; omega
theorem sort_any {ks : List Int} (h2 : ks.length ≤ 12) :
    FnMF Tryz.prog 72 [v] w0 [.row v 3 1 (ks.map icell)] F (fun _ : Unit => True) (fun _ => .tuple #[]) (fun _ => [.row v 3 1 ((sortM ks).map icell)]) := by
  have hln : (ks.map icell).length = ks.length := by simp
  refine FnMF.of (n := 11) Tryz.func72 rfl rfl ?_; refine G.seq (G.region (G.v (ba rfl) rfl ?_)); refine G.v (bz rfl (by exact Rd.ba 0 rfl)) rfl ?_; refine G.v (bb rfl) rfl (G.I (G.E (G.region (G.v (ba rfl) rfl (G.v (ba rfl) rfl (G.v (ba rfl) rfl ?_)))))); refine G.v (rv_convS rfl (by omega) (by omega)) rfl ?_; refine G.op (bT rfl rfl (fun w hh => bitsLen_any w (by rw [hln]; omega) (by rw [hln]; omega))) rfl ?_; rintro z hz; try dsimp only
  (refine G.bb (v) rfl ?_); refine G.op (bO rfl rfl rfl (by rw [hln, ← rowK_list]; exact pdq_any (n := ks.length) (K := keyU ks) h2)) rfl ?_; rintro f1 hf1; try dsimp only
  refine G.I ?_
  exact G.bC () trivial rfl rfl (fun w hw => by rw [← rowK_seg hf1]; exact hw)
end
end Go.Proofs.YtglpgohilfoecaaGreat

/-
  Places that are sorted upward: the reference's merging; a thing that fits into another.
-/
namespace Go.Proofs.YtglpgohilfoecaaGreat
open Go.RowKit
attribute [local irreducible] Go.wpList Go.Code.wp Go.Exit.then Go.Exit.inBlock Go.bodyPost Go.Calls pE pB G RunsV FnV Fn FnM
set_option maxRecDepth 100000
set_option maxHeartbeats 4000000
theorem range_snocU (k : Nat) : (List.range k).map ncell ++ [[.int .i64 (k : Int)]] = (List.range (k + 1)).map ncell := by
  simp [List.range_succ, ncell, icell]
theorem short_srtU {α : Type} {R : α → α → Prop} {l : List α} (h : l.length < 2) : l.Pairwise R := by
  match l, h with
  | [], _ => exact List.Pairwise.nil
  | [x], _ => exact List.pairwise_singleton _ _
theorem mrg_halvesU {K : Nat → Int} {us bs ps : List Nat} {h : Nat} (h1 : us.Perm (ps.take h)) (h2 : bs.Perm (ps.drop h)) : (mrgM K us bs).Perm ps := by
  have := (dW (K := K) us bs).trans (h1.append h2)
  rwa [List.take_append_drop] at this
theorem halves_ltU {ps : List Nat} {h x y : Nat} (hp : ps.Pairwise (· < ·)) (hx : x ∈ ps.take h) (hy : y ∈ ps.drop h) : x < y := by
  rw [← List.take_append_drop h ps] at hp
  exact (List.pairwise_append.1 hp).2.2 x hx y hy
theorem l1PlacesU_any {n : Nat} (w : World) (hn : n ≤ 1048576) : Fn Tryz.prog 138 [.int .i64 (n : Int)] w (fun v : Value => v.oneCell' = true) (fun v => v) (fun v => [.row v 3 1 ((List.range n).map ncell)]) := by
  refine Fn.of (n := 16) Tryz.func138 rfl rfl ?_; refine G.seq (G.region (G.v (bb rfl) rfl (G.I (G.E (G.seq (G.region ?_)))))); refine G.op (bq rfl .nil rfl rfl rfl rfl rfl rfl) rfl (fun vl _ => ?_); refine G.v (bb rfl) rfl (G.I (G.E (G.seq (G.seq (G.region (G.v (bb rfl) rfl (G.I (G.E (G.block ?_))))))))); refine G.Y (ι := Nat × Value) (ks := [0]) (fun x => [(3, x.2), (4, .int .i64 (x.1 : Int))]) (fun x => [.row x.2 3 1 ((List.range x.1).map ncell)]) (fun x => x.1 ≤ n) (fun x => n - x.1) (0, vl) (.cons rfl (.nil)) rfl ?_ ?_ ?_
  exact Nat.zero_le _
  exact ⟨rfl, rfl, trivial⟩
  rintro ⟨k, v⟩ hk
  dsimp only at hk ⊢
  refine G.seq (G.seq (G.region (G.v (ba rfl) rfl (G.v (ba rfl) rfl (G.v (br rfl rfl) rfl (G.I (G.E ?_))))))); refine G.bd rfl (fun hc => ?_) (fun hc => ?_); refine G.skip (G.E (G.seq (G.block (G.region (G.v (ba rfl) rfl (G.v (ba rfl) rfl ?_)))))); refine G.op (bq rfl (.cons rfl .nil) rfl rfl rfl rfl rfl rfl) rfl (fun vl _ => ?_); refine G.op (bU rfl rfl rfl (by exact Rd.ba 0 rfl) rfl rfl (by (simp; omega)) (by (simp; omega))) rfl (fun va _ => ?_); refine G.v (bb rfl) rfl (G.I (G.bc (G.E (G.region (G.v (ba rfl) rfl ?_))))); refine G.v (bp rfl rfl (by omega)) rfl ?_; refine G.v (bb rfl) rfl (G.I ?_); refine G.V (k + 1, va) 1 (bV (congrArg (fun z => Ch.row va 3 1 z) (range_snocU k))) (.cons rfl (.nil)) ?_ ?_ ?_
  exact ⟨rfl, rfl, trivial⟩
  dsimp only; omega
  dsimp only; omega
  refine G.exit (G.L (G.L (G.bn (G.E (G.seq (G.region (G.v (ba rfl) rfl (G.v (bb rfl) rfl (G.I (G.E (G.ret ?_))))))))))); refine G.know (fun w hw => (Rd.ba 0 rfl w hw).one_) (fun hone => G.bg v hone rfl rfl rfl (fun w hw => by obtain rfl : k = n := (by omega); exact hw))
theorem l1MergeU_any {kv : Value} {ks : List Int} : ∀ (s : Nat) {pv : Value} {ps : List Nat} (w : World), ps.length < s → Rd w kv 1 (ks.map icell) → Rd w pv 1 (ps.map ncell) → (∀ x ∈ ps, x < ks.length) → ps.Pairwise (· < ·) → ps.length ≤ 1048576 →
    Fn Tryz.prog 137 [kv, pv, .bool false] w (fun x : Value × List Nat => x.1.oneCell' = true ∧ x.2.Perm ps ∧ x.2.Pairwise (bef (keyU ks))) (fun x => x.1) (fun x => [.row x.1 3 1 (x.2.map ncell)]) := by
  intro s
  induction s with
  | zero => intro pv ps w hs; omega
  | succ s ih =>
  intro pv ps w hs hk hp hlt hpw hn
  have hln : (ps.map ncell).length = ps.length := by simp
  refine Fn.of (n := 132) Tryz.func137 rfl rfl ?_; refine G.seq (G.region (G.v (bb rfl) rfl (G.I (G.E (G.seq (G.seq (G.region (G.v (ba rfl) rfl ?_)))))))); refine G.v (bz rfl (by exact Rd.stays (by assumption))) rfl ?_; refine G.v (br rfl rfl) rfl (G.I (G.E ?_)); refine G.bd rfl (fun hc => ?_) (fun hc => ?_)
  · refine G.seq ?_
    refine G.region ?_; refine G.op (bq rfl .nil rfl rfl rfl rfl rfl rfl) rfl (fun vl _ => ?_); refine G.v (ba rfl) rfl ?_; refine G.op (cS rfl rfl rfl (by exact Rd.stays (by assumption)) rfl rfl (by (simp; omega)) (by (simp; omega))) rfl (fun va _ => ?_); refine G.v (bb rfl) rfl (G.I (G.E (G.ret (G.O ?_)))); refine G.know (fun w hw => (Rd.ba 0 rfl w hw).one_) (fun hone => G.bg (va, ps) ⟨hone, List.Perm.refl _, short_srtU (by dsimp only; omega)⟩ rfl rfl rfl (fun w hw => hw.sublist (by repeat (exact List.Sublist.refl _)))); done
  · refine G.skip ?_
    refine G.E (G.seq (G.region (G.v (ba rfl) rfl ?_))); refine G.v (bz rfl (by exact Rd.stays (by assumption))) rfl ?_; refine G.v (rv_quoN rfl rfl (by omega)) rfl ?_; refine G.v (bb rfl) rfl (G.I (G.E (G.seq (G.region (G.v (ba rfl) rfl (G.v (ba rfl) rfl (G.v (ba rfl) rfl ?_))))))); refine G.v (dp rfl rfl (by exact Rd.stays (by assumption)) (by omega)) rfl ?_; refine G.v (ba rfl) rfl ?_; refine G.op (bH rfl rfl (fun w hh => ih w (by rw [List.length_take]; omega) (Rd.stays hk _ hh) (Rd.subH (Rd.stays hp _ hh) (by omega)) (fun x hx => hlt x (List.mem_of_mem_take hx)) (hpw.sublist (List.take_sublist _ _)) (by rw [List.length_take]; omega))) rfl ?_; rintro ⟨xa, us⟩ ⟨hxa, hpa, hsa⟩; try dsimp only
    refine G.v (bb rfl) rfl (G.I (G.E (G.seq (G.region (G.v (ba rfl) rfl (G.v (ba rfl) rfl (G.v (ba rfl) rfl ?_))))))); refine G.v (dq rfl rfl (by exact Rd.stays (by assumption)) (by omega)) rfl ?_; refine G.v (ba rfl) rfl ?_; refine G.op (bH rfl rfl (fun w hh => ih w (by rw [List.length_drop]; omega) (Rd.stays hk _ hh) (Rd.subL (Rd.stays hp _ hh) (by omega)) (fun x hx => hlt x (List.mem_of_mem_drop hx)) (hpw.sublist (List.drop_sublist _ _)) (by rw [List.length_drop]; omega))) rfl ?_; rintro ⟨xb, bs⟩ ⟨hxb, hpb, hsb⟩; try dsimp only
    refine G.v (bb rfl) rfl (G.I (G.E (G.seq (G.region ?_)))); refine G.op (bq rfl .nil rfl rfl rfl rfl rfl rfl) rfl (fun vl _ => ?_); refine G.v (bb rfl) rfl (G.I (G.E (G.seq (G.region (G.v (bb rfl) rfl (G.I (G.E (G.seq (G.region (G.v (bb rfl) rfl (G.I ?_))))))))))); refine G.E (G.seq (G.block ?_))
    have hla : us.length = (ps.map ncell).length / 2 := by (rw [hpa.length_eq, List.length_take]; omega)
    have hlb : bs.length = ps.length - (ps.map ncell).length / 2 := by rw [hpb.length_eq, List.length_drop]
    have hla2 : (us.map ncell).length = us.length := by simp
    have hlb2 : (bs.map ncell).length = bs.length := by simp
    refine G.Y (ι := Nat × Nat × List Nat × Value) (ks := [0, 2, 8, 9]) (fun x => [(10, x.2.2.2), (11, .int .i64 (x.1 : Int)), (12, .int .i64 (x.2.1 : Int))]) (fun x => [.row x.2.2.2 3 1 (x.2.2.1.map ncell)]) (fun x => x.1 ≤ us.length ∧ x.2.1 ≤ bs.length ∧ x.2.2.1.length = x.1 + x.2.1 ∧ x.2.2.1 ++ mrgM (keyU ks) (us.drop x.1) (bs.drop x.2.1) = mrgM (keyU ks) us bs) (fun x => us.length + bs.length - x.1 - x.2.1) (0, 0, [], vl) (.cons rfl (.cons rfl (.cons rfl (.cons rfl (.nil))))) rfl ?_ ?_ ?_
    exact ⟨Nat.zero_le _, Nat.zero_le _, rfl, rfl⟩
    exact ⟨rfl, rfl, rfl, trivial⟩
    rintro ⟨i, j, out, v⟩ ⟨hi, hj, hol, hm⟩
    dsimp only at hi hj hol hm ⊢
    have hol2 : (out.map ncell).length = out.length := by simp
    by_cases hA : i < us.length
    case' pos => (obtain ⟨x, hx⟩ := bn hA; have e1 := bt hx ncell; have hxl := hlt x (List.mem_of_mem_take (hpa.mem_iff.1 (List.mem_of_getElem? hx))); obtain ⟨kx, hkx⟩ := bn hxl; have e3 := bt hkx icell; have hK1 := dX hkx)
    all_goals by_cases hB : j < bs.length
    any_goals (obtain ⟨y, hy⟩ := bn hB; have e2 := bt hy ncell; have hyl := hlt y (List.mem_of_mem_drop (hpb.mem_iff.1 (List.mem_of_getElem? hy))); obtain ⟨ky, hky⟩ := bn hyl; have e4 := bt hky icell; have hK2 := dX hky)
    all_goals
     refine G.seq (G.seq (G.region (G.v (ba rfl) rfl (G.v (ba rfl) rfl ?_)))); refine G.v (bz rfl (by exact Rd.ba 2 rfl)) rfl ?_; refine G.v (br rfl rfl) rfl (G.v (ba rfl) rfl ?_)
     all_goals (((with_reducible refine G.gP rfl rfl (fun hg => ?_) (fun hg => ?_)) <;> (try exact Bool.noConfusion hg) <;> (try (exfalso; first | (have hq := of_decide_eq_false hg; omega) | (have hq := of_decide_eq_true hg; omega); done)) <;> (first | (refine G.gY rfl rfl ?_; refine G.v (ba rfl) rfl ?_) | refine G.gN rfl rfl rfl ?_)))
     all_goals ((first | (refine G.gY rfl rfl ?_; refine G.v (ba rfl) rfl ?_) | refine G.gN rfl rfl rfl ?_))
     all_goals ((first | (refine G.gY rfl rfl ?_; refine G.v (bz rfl (by exact Rd.ba 1 rfl)) rfl ?_) | refine G.gN rfl rfl rfl ?_))
     all_goals ((first | (refine G.gY rfl rfl ?_; refine G.v (br rfl rfl) rfl ?_) | refine G.gN rfl rfl rfl ?_))
     all_goals ((first | refine G.v (bk rfl rfl) rfl ?_ | refine G.v (bm rfl rfl) rfl ?_))
     all_goals
      refine G.I (G.E ?_); refine G.cond rfl (fun hc => ?_) (fun hc => ?_)
      · all_goals
         try replace hc := of_decide_eq_true hc
         try (exfalso; omega)
         all_goals
          refine G.skip (G.E (G.block (G.block (G.seq (G.region (G.v (ba rfl) rfl (G.v (ba rfl) rfl ?_))))))); refine G.v (bz rfl (by exact Rd.ba 1 rfl)) rfl ?_; refine G.v (bQ rfl rfl) rfl (G.v (bb rfl) rfl (G.I (G.E ?_))); refine G.cond rfl (fun hc => ?_) (fun hc => ?_)
          · all_goals
             replace hc := of_decide_eq_true hc
             try (exfalso; omega)
             all_goals
              refine G.seq (G.region (G.v (ba rfl) rfl (G.v (ba rfl) rfl (G.v (ba rfl) rfl ?_)))); refine G.v (bg rfl rfl (by exact Rd.ba 2 rfl) rfl (by exact e1)) rfl ?_; refine G.v (bi rfl (by exact Rd.ba 2 rfl) (by exact e1) rfl) rfl ?_; refine G.op (bq rfl (.cons rfl .nil) rfl rfl rfl rfl rfl rfl) rfl (fun vl _ => ?_); refine G.op (bU rfl rfl rfl (by exact Rd.ba 0 rfl) rfl rfl (by (simp; omega)) (by (simp; omega))) rfl (fun va _ => ?_); refine G.v (bb rfl) rfl (G.I (G.E (G.region (G.v (ba rfl) rfl ?_)))); refine G.v (bp rfl rfl (by omega)) rfl ?_; refine G.v (bb rfl) rfl (G.I (G.bc (G.bc ?_))); refine G.V (i + 1, j, out ++ [x], va) 1 (bV (congrArg (fun z => Ch.row va 3 1 z) (by rw [List.map_append]; rfl))) (.cons rfl (.cons rfl (.cons rfl (.cons rfl (.nil))))) (⟨rfl, rfl, rfl, trivial⟩) ?_ ?_
              · exact ⟨by dsimp only; omega, by dsimp only; omega, by simp; omega, by dsimp only; rw [mrg_left hx (fun y' hy' => by first | (rw [List.getElem?_eq_none (by omega)] at hy'; cases hy'; done) | (rw [hy] at hy'; cases hy'; rw [hK1, hK2]; first | omega | (simp only [decide_eq_true_eq, decide_eq_false_iff_not] at *; omega)))] at hm; rw [List.append_assoc]; exact hm⟩
              dsimp only; omega
          · all_goals
             replace hc := of_decide_eq_false hc
             try (exfalso; omega)
             all_goals
              refine G.seq (G.region (G.v (ba rfl) rfl (G.v (ba rfl) rfl ?_))); refine G.v (bz rfl (by exact Rd.ba 2 rfl)) rfl ?_; refine G.v (bQ rfl rfl) rfl (G.v (bb rfl) rfl (G.I (G.E ?_))); refine G.cond rfl (fun hc => ?_) (fun hc => ?_)
              · all_goals
                 replace hc := of_decide_eq_true hc
                 try (exfalso; omega)
                 all_goals
                  refine G.seq (G.region (G.v (ba rfl) rfl (G.v (ba rfl) rfl (G.v (ba rfl) rfl ?_)))); refine G.v (bg rfl rfl (by exact Rd.ba 1 rfl) rfl (by exact e2)) rfl ?_; refine G.v (bi rfl (by exact Rd.ba 1 rfl) (by exact e2) rfl) rfl ?_; refine G.op (bq rfl (.cons rfl .nil) rfl rfl rfl rfl rfl rfl) rfl (fun vl _ => ?_); refine G.op (bU rfl rfl rfl (by exact Rd.ba 0 rfl) rfl rfl (by (simp; omega)) (by (simp; omega))) rfl (fun va _ => ?_); refine G.v (bb rfl) rfl (G.I (G.E (G.region (G.v (ba rfl) rfl ?_)))); refine G.v (bp rfl rfl (by omega)) rfl ?_; refine G.v (bb rfl) rfl (G.I (G.bc (G.bc ?_))); refine G.V (i, j + 1, out ++ [y], va) 1 (bV (congrArg (fun z => Ch.row va 3 1 z) (by rw [List.map_append]; rfl))) (.cons rfl (.cons rfl (.cons rfl (.cons rfl (.nil))))) (⟨rfl, rfl, rfl, trivial⟩) ?_ ?_
                  · exact ⟨by dsimp only; omega, by dsimp only; omega, by simp; omega, by dsimp only; rw [mrg_right hy (fun x' hx' => by first | (rw [List.getElem?_eq_none (by omega)] at hx'; cases hx'; done) | (rw [hx] at hx'; cases hx'; rw [hK1, hK2]; first | omega | (simp only [decide_eq_true_eq, decide_eq_false_iff_not] at *; omega)))] at hm; rw [List.append_assoc]; exact hm⟩
                  dsimp only; omega
              · all_goals
                 replace hc := of_decide_eq_false hc
                 try (exfalso; omega)
                 all_goals
                  refine G.seq ?_; refine G.ba [] ?_; refine GE.q 0 rfl (by as_aux_lemma => kernel_rfl) rfl (bc (ba rfl)) rfl ?_; refine GE.q 1 rfl (by as_aux_lemma => kernel_rfl) rfl (bc (ba rfl)) rfl ?_; refine GE.q 2 rfl (by as_aux_lemma => kernel_rfl) rfl (bc (ba rfl)) rfl ?_; refine GE.q 3 rfl (by as_aux_lemma => kernel_rfl) rfl (bc (bg rfl rfl (by exact Rd.ba 1 rfl) rfl (by exact e2))) rfl ?_; refine GE.q 4 rfl (by as_aux_lemma => kernel_rfl) rfl (bc (bi rfl (by exact Rd.ba 1 rfl) (by exact e2) rfl)) rfl ?_; refine GE.q 5 rfl (by as_aux_lemma => kernel_rfl) rfl (bc (bg rfl rfl (by exact Rd.stays (by assumption)) rfl (by exact e4))) rfl ?_; refine GE.q 6 rfl (by as_aux_lemma => kernel_rfl) rfl (bc (bi rfl (by exact Rd.stays (by assumption)) (by exact e4) rfl)) rfl ?_; refine GE.q 7 rfl (by as_aux_lemma => kernel_rfl) rfl (bc (ba rfl)) rfl ?_; refine GE.q 8 rfl (by as_aux_lemma => kernel_rfl) rfl (bc (ba rfl)) rfl ?_; refine GE.V 9 (by as_aux_lemma => kernel_rfl) rfl rfl (bd (ba rfl)) rfl (fun _ _ h => by exact h) (fun _ _ => ?_); refine GE.V 10 (by as_aux_lemma => kernel_rfl) rfl rfl (bd (bg rfl rfl (by exact Rd.ba 2 rfl) rfl (by exact e1))) rfl (fun _ _ h => by exact h) (fun _ _ => ?_)
                  refine GE.V 11 (by as_aux_lemma => kernel_rfl) rfl rfl (bd (bi rfl (by exact Rd.ba 2 rfl) (by exact e1) rfl)) rfl (fun _ _ h => by exact h) (fun _ _ => ?_); refine GE.V 12 (by as_aux_lemma => kernel_rfl) rfl rfl (bd (bg rfl rfl (by exact Rd.stays (by assumption)) rfl (by exact e3))) rfl (fun _ _ h => by exact h) (fun _ _ => ?_); refine GE.V 13 (by as_aux_lemma => kernel_rfl) rfl rfl (bd (bi rfl (by exact Rd.stays (by assumption)) (by exact e3) rfl)) rfl (fun _ _ h => by exact h) (fun _ _ => ?_); refine GE.V 14 (by as_aux_lemma => kernel_rfl) rfl rfl (bd (br rfl rfl)) rfl (fun _ _ h => by exact h) (fun _ _ => ?_); refine GE.V 15 (by as_aux_lemma => kernel_rfl) rfl rfl (bd (ba rfl)) rfl (fun _ _ h => by exact h) (fun _ _ => ?_)
                  all_goals (((with_reducible refine GE.part (t := 98) rfl (fun hg => ?_) (fun hg => ?_)) <;> (try exact Bool.noConfusion hg) <;> (try (exfalso; (have hq := of_decide_eq_false hg; omega))) <;> (first | refine GE.q 16 rfl (by as_aux_lemma => kernel_rfl) rfl (bc (ba rfl)) rfl ?_ | refine GE.O 16 rfl (by as_aux_lemma => kernel_rfl) rfl rfl ?_)))
                  all_goals ((first | refine GE.q 17 rfl (by as_aux_lemma => kernel_rfl) rfl (bc (bF rfl)) rfl ?_ | refine GE.O 17 rfl (by as_aux_lemma => kernel_rfl) rfl rfl ?_))
                  all_goals ((first | refine GE.V 18 (by as_aux_lemma => kernel_rfl) rfl rfl (bd (bk rfl rfl)) rfl (fun _ _ h => by exact h) (fun _ _ => ?_) | refine GE.V 18 (by as_aux_lemma => kernel_rfl) rfl rfl (bd (bm rfl rfl)) rfl (fun _ _ h => by exact h) (fun _ _ => ?_)))
                  all_goals (refine GE.V 19 (by as_aux_lemma => kernel_rfl) rfl rfl (bd (ba rfl)) rfl (fun _ _ h => by exact h) (fun _ _ => ?_))
                  all_goals (((with_reducible refine GE.part (t := 102) rfl (fun hg => ?_) (fun hg => ?_)) <;> (try exact Bool.noConfusion hg) <;> (try (exfalso; (have hq := of_decide_eq_false hg; omega))) <;> (first | refine GE.q 20 rfl (by as_aux_lemma => kernel_rfl) rfl (bc (ba rfl)) rfl ?_ | refine GE.O 20 rfl (by as_aux_lemma => kernel_rfl) rfl rfl ?_)))
                  all_goals ((first | refine GE.q 21 rfl (by as_aux_lemma => kernel_rfl) rfl (bc (ba rfl)) rfl ?_ | refine GE.O 21 rfl (by as_aux_lemma => kernel_rfl) rfl rfl ?_))
                  all_goals ((first | refine GE.q 22 rfl (by as_aux_lemma => kernel_rfl) rfl (bc (ba rfl)) rfl ?_ | refine GE.O 22 rfl (by as_aux_lemma => kernel_rfl) rfl rfl ?_))
                  all_goals ((first | (refine GE.q 23 rfl (by as_aux_lemma => kernel_rfl) rfl (bc (bg rfl rfl (by exact Rd.ba 1 rfl) rfl (by exact e2))) rfl ?_) | refine GE.O 23 rfl (by as_aux_lemma => kernel_rfl) rfl rfl ?_))
                  all_goals ((first | refine GE.q 24 rfl (by as_aux_lemma => kernel_rfl) rfl (bc (bi rfl (by first | exact Rd.stays (by assumption) | exact Rd.ba 1 rfl) (by exact e2) rfl)) rfl ?_ | refine GE.O 24 rfl (by as_aux_lemma => kernel_rfl) rfl rfl ?_))
                  all_goals ((first | (refine GE.q 25 rfl (by as_aux_lemma => kernel_rfl) rfl (bc (bg rfl rfl (by exact Rd.stays (by assumption)) rfl (by exact e4))) rfl ?_) | refine GE.O 25 rfl (by as_aux_lemma => kernel_rfl) rfl rfl ?_))
                  all_goals ((first | refine GE.q 26 rfl (by as_aux_lemma => kernel_rfl) rfl (bc (bi rfl (by exact Rd.stays (by assumption)) (by exact e4) rfl)) rfl ?_ | refine GE.O 26 rfl (by as_aux_lemma => kernel_rfl) rfl rfl ?_))
                  all_goals ((first | refine GE.q 27 rfl (by as_aux_lemma => kernel_rfl) rfl (bc (ba rfl)) rfl ?_ | refine GE.O 27 rfl (by as_aux_lemma => kernel_rfl) rfl rfl ?_))
                  all_goals ((first | refine GE.q 28 rfl (by as_aux_lemma => kernel_rfl) rfl (bc (ba rfl)) rfl ?_ | refine GE.O 28 rfl (by as_aux_lemma => kernel_rfl) rfl rfl ?_))
                  all_goals ((first | refine GE.q 29 rfl (by as_aux_lemma => kernel_rfl) rfl (bc (ba rfl)) rfl ?_ | refine GE.O 29 rfl (by as_aux_lemma => kernel_rfl) rfl rfl ?_))
                  all_goals ((first | (refine GE.q 30 rfl (by as_aux_lemma => kernel_rfl) rfl (bc (bg rfl rfl (by exact Rd.ba 2 rfl) rfl (by exact e1))) rfl ?_) | refine GE.O 30 rfl (by as_aux_lemma => kernel_rfl) rfl rfl ?_))
                  all_goals ((first | refine GE.q 31 rfl (by as_aux_lemma => kernel_rfl) rfl (bc (bi rfl (by first | exact Rd.stays (by assumption) | exact Rd.ba 2 rfl) (by exact e1) rfl)) rfl ?_ | refine GE.O 31 rfl (by as_aux_lemma => kernel_rfl) rfl rfl ?_))
                  all_goals ((first | (refine GE.q 32 rfl (by as_aux_lemma => kernel_rfl) rfl (bc (bg rfl rfl (by exact Rd.stays (by assumption)) rfl (by exact e3))) rfl ?_) | refine GE.O 32 rfl (by as_aux_lemma => kernel_rfl) rfl rfl ?_))
                  all_goals ((first | refine GE.q 33 rfl (by as_aux_lemma => kernel_rfl) rfl (bc (bi rfl (by exact Rd.stays (by assumption)) (by exact e3) rfl)) rfl ?_ | refine GE.O 33 rfl (by as_aux_lemma => kernel_rfl) rfl rfl ?_))
                  all_goals ((first | refine GE.q 34 rfl (by as_aux_lemma => kernel_rfl) rfl (bc (b6 rfl rfl)) rfl ?_ | refine GE.O 34 rfl (by as_aux_lemma => kernel_rfl) rfl rfl ?_))
                  all_goals ((first | refine GE.q 35 rfl (by as_aux_lemma => kernel_rfl) rfl (bc (ba rfl)) rfl ?_ | refine GE.O 35 rfl (by as_aux_lemma => kernel_rfl) rfl rfl ?_))
                  all_goals ((first | refine GE.O 36 rfl (by as_aux_lemma => kernel_rfl) rfl rfl ?_ | ((with_reducible refine GE.part (t := 118) rfl (fun hg => ?_) (fun hg => ?_)) <;> (try exact Bool.noConfusion hg) <;> (try (exfalso; (have hq := of_decide_eq_false hg; omega))) <;> (first | refine GE.q 36 rfl (by as_aux_lemma => kernel_rfl) rfl (bc (ba rfl)) rfl ?_ | refine GE.O 36 rfl (by as_aux_lemma => kernel_rfl) rfl rfl ?_))))
                  all_goals ((first | (first | refine GE.q 37 rfl (by as_aux_lemma => kernel_rfl) rfl (bc (bk rfl rfl)) rfl ?_ | refine GE.q 37 rfl (by as_aux_lemma => kernel_rfl) rfl (bc (bm rfl rfl)) rfl ?_) | refine GE.O 37 rfl (by as_aux_lemma => kernel_rfl) rfl rfl ?_))
                  all_goals ((first | refine GE.V 38 (by as_aux_lemma => kernel_rfl) rfl rfl (bd (bk rfl rfl)) rfl (fun _ _ h => by exact h) (fun _ _ => ?_) | refine GE.V 38 (by as_aux_lemma => kernel_rfl) rfl rfl (bd (bm rfl rfl)) rfl (fun _ _ h => by exact h) (fun _ _ => ?_)))
                  all_goals (refine GE.V 39 (by as_aux_lemma => kernel_rfl) rfl rfl (bd (bb rfl)) rfl (fun _ _ h => by exact h) (fun _ _ => ?_))
                  all_goals
                   refine GE.E (by as_aux_lemma => kernel_rfl) ?_; refine G.E ?_; refine G.cond rfl (fun hc => ?_) (fun hc => ?_)
                   · try exact Bool.noConfusion hc
                     all_goals
                      all_goals
                       refine G.seq (G.region (G.v (ba rfl) rfl (G.v (ba rfl) rfl (G.v (ba rfl) rfl ?_)))); refine G.v (bg rfl rfl (by exact Rd.ba 1 rfl) rfl (by exact e2)) rfl ?_; refine G.v (bi rfl (by exact Rd.ba 1 rfl) (by exact e2) rfl) rfl ?_; refine G.op (bq rfl (.cons rfl .nil) rfl rfl rfl rfl rfl rfl) rfl (fun vl _ => ?_); refine G.op (bU rfl rfl rfl (by exact Rd.ba 0 rfl) rfl rfl (by (simp; omega)) (by (simp; omega))) rfl (fun va _ => ?_); refine G.v (bb rfl) rfl (G.I (G.E (G.region (G.v (ba rfl) rfl ?_)))); refine G.v (bp rfl rfl (by omega)) rfl ?_; refine G.v (bb rfl) rfl (G.I (G.bc (G.bc ?_))); refine G.V (i, j + 1, out ++ [y], va) 1 (bV (congrArg (fun z => Ch.row va 3 1 z) (by rw [List.map_append]; rfl))) (.cons rfl (.cons rfl (.cons rfl (.cons rfl (.nil))))) (⟨rfl, rfl, rfl, trivial⟩) ?_ ?_
                       · exact ⟨by dsimp only; omega, by dsimp only; omega, by simp; omega, by dsimp only; rw [mrg_right hy (fun x' hx' => by first | (rw [List.getElem?_eq_none (by omega)] at hx'; cases hx'; done) | (rw [hx] at hx'; cases hx'; rw [hK1, hK2]; first | omega | (simp only [decide_eq_true_eq, decide_eq_false_iff_not] at *; omega)))] at hm; rw [List.append_assoc]; exact hm⟩
                       dsimp only; omega
                   · try exact Bool.noConfusion hc
                     all_goals
                      all_goals
                       refine G.seq (G.region (G.v (ba rfl) rfl (G.v (ba rfl) rfl (G.v (ba rfl) rfl ?_)))); refine G.v (bg rfl rfl (by exact Rd.ba 2 rfl) rfl (by exact e1)) rfl ?_; refine G.v (bi rfl (by exact Rd.ba 2 rfl) (by exact e1) rfl) rfl ?_; refine G.op (bq rfl (.cons rfl .nil) rfl rfl rfl rfl rfl rfl) rfl (fun vl _ => ?_); refine G.op (bU rfl rfl rfl (by exact Rd.ba 0 rfl) rfl rfl (by (simp; omega)) (by (simp; omega))) rfl (fun va _ => ?_); refine G.v (bb rfl) rfl (G.I (G.E (G.region (G.v (ba rfl) rfl ?_)))); refine G.v (bp rfl rfl (by omega)) rfl ?_; refine G.v (bb rfl) rfl (G.I (G.bc (G.bc ?_))); refine G.V (i + 1, j, out ++ [x], va) 1 (bV (congrArg (fun z => Ch.row va 3 1 z) (by rw [List.map_append]; rfl))) (.cons rfl (.cons rfl (.cons rfl (.cons rfl (.nil))))) (⟨rfl, rfl, rfl, trivial⟩) ?_ ?_
                       · exact ⟨by dsimp only; omega, by dsimp only; omega, by simp; omega, by dsimp only; rw [mrg_left hx (fun y' hy' => by first | (rw [List.getElem?_eq_none (by omega)] at hy'; cases hy'; done) | (rw [hy] at hy'; cases hy'; rw [hK1, hK2]; first | omega | (simp only [decide_eq_true_eq, decide_eq_false_iff_not] at *; omega)))] at hm; rw [List.append_assoc]; exact hm⟩
                       dsimp only; omega
      · try exact Bool.noConfusion hc
        all_goals
         replace hc := of_decide_eq_false hc
         try (exfalso; omega)
         all_goals
          refine G.exit (G.L (G.L (G.bn (G.E (G.seq (G.region (G.v (ba rfl) rfl (G.v (bb rfl) rfl (G.I (G.E (G.ret ?_)))))))))))
          have hout : out = mrgM (keyU ks) us bs := (by rw [List.drop_eq_nil_of_le (by omega), List.drop_eq_nil_of_le (by omega)] at hm; simpa [mrgM] using hm); refine G.know (fun w hw => (Rd.ba 0 rfl w hw).one_) (fun hone => G.bg (v, out) ⟨hone, hout ▸ mrg_halvesU hpa hpb, hout ▸ mrg_srt us bs hsa hsb (fun x hx y hy _ => halves_ltU hpw (hpa.mem_iff.1 hx) (hpb.mem_iff.1 hy))⟩ rfl rfl rfl (fun w hw => hw.sublist (by repeat (first | exact List.Sublist.refl _ | refine List.Sublist.cons_cons _ ?_ | refine List.Sublist.cons _ ?_))))
theorem ssortUp_any {kv : Value} {ks : List Int} (w : World) (h : Rd w kv 1 (ks.map icell)) (hn : ks.length ≤ 1048576) : Fn Tryz.prog 76 [kv] w (fun v : Value => v.oneCell' = true) (fun v => v) (fun v => [.row v 3 1 ((ordM (keyU ks) ks.length).map ncell)]) := by
  have hln : (ks.map icell).length = ks.length := by simp
  refine Fn.of (n := 8) Tryz.func76 rfl rfl ?_; refine G.seq (G.region (G.v (bb rfl) rfl (G.I (G.E (G.seq (G.region (G.v (ba rfl) rfl (G.v (ba rfl) rfl ?_)))))))); refine G.v (bz rfl (by exact Rd.stays (by assumption))) rfl ?_; refine G.op (bH rfl rfl (fun w hh => by rw [hln]; exact l1PlacesU_any w hn)) rfl ?_; rintro vp hvp; try dsimp only
  refine G.op (bH rfl rfl (fun w hh => l1MergeU_any (ks.length + 1) w (by simp) (Rd.stays h _ hh) (Rd.ba 0 rfl _ hh) (fun x hx => List.mem_range.1 hx) List.pairwise_lt_range (by simpa using hn))) rfl ?_; rintro ⟨vo, os⟩ ⟨hvo, hpo, hso⟩; try dsimp only
  refine G.v (bb rfl) rfl (G.I (G.E (G.ret ?_)))
  exact G.bg vo hvo rfl rfl rfl (fun w hw => by rw [← ord_of_perm hso hpo]; exact hw.sublist (by repeat (first | exact List.Sublist.refl _ | refine List.Sublist.cons_cons _ ?_ | refine List.Sublist.cons _ ?_)))
theorem three {l : List Int} (h : l.length = 3) : ∃ a b c, l = [a, b, c] := by
  match l, h with
  | [a, b, c], _ => exact ⟨a, b, c, rfl⟩
theorem threeN {l : List Nat} (h : l.length = 3) : ∃ a b c, l = [a, b, c] := by
  match l, h with
  | [a, b, c], _ => exact ⟨a, b, c, rfl⟩
def le3 (a b : List Int) : Bool := match a, b with
  | [a0, a1, a2], [b0, b1, b2] => decide (a0 ≤ b0) && decide (a1 ≤ b1) && decide (a2 ≤ b2)
  | _, _ => false
def fitsM (x : ItemM) (t : TypeM) : Bool := le3 (sortM [x.w, x.h, x.d]) (sortM [t.w, t.h, t.d]) && decide (x.g ≤ t.g)
theorem l5Sides_any (a b c : Int) (w : World) : Fn Tryz.prog 152 [.int .i64 a, .int .i64 b, .int .i64 c] w (fun v : Value => v.oneCell' = true) (fun v => v) (fun v => [.row v 3 1 ((sortM [a, b, c]).map icell)]) := by
  obtain ⟨x0, x1, x2, hx⟩ := threeN (cP (keyU [a, b, c]) 3)
  have hm : ∀ x ∈ [x0, x1, x2], x < [a, b, c].length := fun x h => dJ.1 (hx ▸ h)
  obtain ⟨y0, hy0⟩ := bn (hm x0 (by simp))
  obtain ⟨y1, hy1⟩ := bn (hm x1 (by simp))
  obtain ⟨y2, hy2⟩ := bn (hm x2 (by simp))
  have hs : sortM [a, b, c] = [y0, y1, y2] := by
    show (ordM (keyU [a, b, c]) 3).map (keyU [a, b, c]) = _
    rw [hx, List.map_cons, List.map_cons, List.map_cons, List.map_nil, dX hy0, dX hy1, dX hy2]
  rw [hs]
  have e0 := bt hy0 icell
  have e1 := bt hy1 icell
  have e2 := bt hy2 icell
  refine Fn.of (n := 34) Tryz.func152 rfl rfl ?_; refine G.seq (G.region (G.v (bb rfl) rfl (G.I (G.E (G.seq (G.region (G.v (ba rfl) rfl (G.v (ba rfl) rfl (G.v (ba rfl) rfl ?_))))))))); refine G.op (bq rfl (.cons rfl (.cons rfl (.cons rfl .nil))) rfl rfl rfl rfl rfl rfl) rfl (fun vk _ => ?_); refine G.v (bb rfl) rfl (G.I (G.E (G.seq (G.region (G.v (ba rfl) rfl ?_))))); refine G.op (bH rfl rfl (fun w hh => by have hq := ssortUp_any (kv := vk) (ks := [a, b, c]) w (Rd.ba 0 rfl _ hh) (by simp); rw [show ordM (keyU [a, b, c]) [a, b, c].length = [x0, x1, x2] from hx] at hq; exact hq)) rfl ?_; rintro vo hvo; try dsimp only
  refine G.v (bb rfl) rfl (G.I (G.E (G.seq ?_))); refine G.ba [19] ?_; refine GE.q 0 rfl (by as_aux_lemma => kernel_rfl) rfl (bc (ba rfl)) rfl ?_; refine GE.q 1 rfl (by as_aux_lemma => kernel_rfl) rfl (bc (ba rfl)) rfl ?_; refine GE.q 2 rfl (by as_aux_lemma => kernel_rfl) rfl (bc (bg rfl rfl (by exact Rd.ba 0 rfl) rfl (by rfl))) rfl ?_; refine GE.q 3 rfl (by as_aux_lemma => kernel_rfl) rfl (bc (bi rfl (by exact Rd.ba 0 rfl) (by rfl) rfl)) rfl ?_; refine GE.q 4 rfl (by as_aux_lemma => kernel_rfl) rfl (bc (bg rfl rfl (by exact Rd.ba 1 rfl) rfl (by exact e0))) rfl ?_; refine GE.q 5 rfl (by as_aux_lemma => kernel_rfl) rfl (bc (bi rfl (by exact Rd.ba 1 rfl) (by exact e0) rfl)) rfl ?_; refine GE.q 6 rfl (by as_aux_lemma => kernel_rfl) rfl (bc (ba rfl)) rfl ?_; refine GE.q 7 rfl (by as_aux_lemma => kernel_rfl) rfl (bc (ba rfl)) rfl ?_; refine GE.q 8 rfl (by as_aux_lemma => kernel_rfl) rfl (bc (bg rfl rfl (by exact Rd.ba 0 rfl) rfl (by rfl))) rfl ?_; refine GE.q 9 rfl (by as_aux_lemma => kernel_rfl) rfl (bc (bi rfl (by exact Rd.ba 0 rfl) (by rfl) rfl)) rfl ?_; refine GE.q 10 rfl (by as_aux_lemma => kernel_rfl) rfl (bc (bg rfl rfl (by exact Rd.ba 1 rfl) rfl (by exact e1))) rfl ?_
  refine GE.q 11 rfl (by as_aux_lemma => kernel_rfl) rfl (bc (bi rfl (by exact Rd.ba 1 rfl) (by exact e1) rfl)) rfl ?_; refine GE.q 12 rfl (by as_aux_lemma => kernel_rfl) rfl (bc (ba rfl)) rfl ?_; refine GE.V 13 (by as_aux_lemma => kernel_rfl) rfl rfl (bd (ba rfl)) rfl (fun _ _ h => by exact h) (fun _ _ => ?_); refine GE.V 14 (by as_aux_lemma => kernel_rfl) rfl rfl (bd (bg rfl rfl (by exact Rd.ba 0 rfl) rfl (by rfl))) rfl (fun _ _ h => by exact h) (fun _ _ => ?_); refine GE.V 15 (by as_aux_lemma => kernel_rfl) rfl rfl (bd (bi rfl (by exact Rd.ba 0 rfl) (by rfl) rfl)) rfl (fun _ _ h => by exact h) (fun _ _ => ?_); refine GE.V 16 (by as_aux_lemma => kernel_rfl) rfl rfl (bd (bg rfl rfl (by exact Rd.ba 1 rfl) rfl (by exact e2))) rfl (fun _ _ h => by exact h) (fun _ _ => ?_); refine GE.V 17 (by as_aux_lemma => kernel_rfl) rfl rfl (bd (bi rfl (by exact Rd.ba 1 rfl) (by exact e2) rfl)) rfl (fun _ _ h => by exact h) (fun _ _ => ?_); refine GE.V 18 (by as_aux_lemma => kernel_rfl) rfl rfl (bq rfl (.cons rfl (.cons rfl (.cons rfl .nil))) rfl rfl rfl rfl rfl rfl) rfl (fun _ _ h => by exact h.drop 1) (fun vs _ => ?_); refine GE.t 19 (by as_aux_lemma => kernel_rfl) rfl rfl rfl (bd (bb rfl)) rfl (fun _ _ => ?_); refine GE.E (by as_aux_lemma => kernel_rfl) ?_; refine G.E (G.ret ?_)
  refine G.know (fun w hw => (Rd.ba 0 rfl w hw).one_) (fun hone => G.bg vs hone rfl rfl rfl (fun w hw => hw.sublist (by repeat (first | exact List.Sublist.refl _ | refine List.Sublist.cons_cons _ ?_ | refine List.Sublist.cons _ ?_))))
theorem sfits_any (x : ItemM) (t : TypeM) (w : World) : FnV Tryz.prog 87 [x.val, t.val] w (.bool (fitsM x t)) := by
  obtain ⟨a0, a1, a2, ha⟩ := three (cB [x.w, x.h, x.d])
  obtain ⟨b0, b1, b2, hb⟩ := three (cB [t.w, t.h, t.d])
  have hF : fitsM x t = (decide (a0 ≤ b0) && decide (a1 ≤ b1) && decide (a2 ≤ b2) && decide (x.g ≤ t.g)) := by rw [fitsM, ha, hb]; rfl
  rw [hF]
  refine FnV.of (n := 53) Tryz.func87 rfl rfl ?_; refine G.seq (G.region ?_); refine G.op (bE rfl rfl) rfl (fun bk2 _ => ?_); refine G.op (bE rfl rfl) rfl (fun bk3 _ => ?_); refine G.v (bb rfl) rfl (G.I (G.E (G.seq (G.region (G.v (be rfl) rfl (G.v (bf 1 rfl rfl rfl) rfl (G.v (be rfl) rfl (G.v (bf 1 rfl rfl rfl) rfl (G.v (be rfl) rfl (G.v (bf 1 rfl rfl rfl) rfl ?_)))))))))); refine G.op (bH rfl rfl (fun w hh => by have hq := l5Sides_any x.w x.h x.d w; rw [ha] at hq; exact hq)) rfl ?_; rintro va hva; try dsimp only
  refine G.v (bb rfl) rfl (G.I (G.E (G.seq (G.region (G.v (be rfl) rfl (G.v (bf 1 rfl rfl rfl) rfl (G.v (be rfl) rfl (G.v (bf 1 rfl rfl rfl) rfl (G.v (be rfl) rfl (G.v (bf 1 rfl rfl rfl) rfl ?_)))))))))); refine G.op (bH rfl rfl (fun w hh => by have hq := l5Sides_any t.w t.h t.d w; rw [hb] at hq; exact hq)) rfl ?_; rintro vb hvb; try dsimp only
  refine G.v (bb rfl) rfl (G.I (G.E (G.seq ?_))); refine G.ba [32] ?_; refine GE.q 0 rfl (by as_aux_lemma => kernel_rfl) rfl (bc (ba rfl)) rfl ?_; refine GE.q 1 rfl (by as_aux_lemma => kernel_rfl) rfl (bc (bg rfl rfl (by exact Rd.ba 1 rfl) rfl rfl)) rfl ?_; refine GE.q 2 rfl (by as_aux_lemma => kernel_rfl) rfl (bc (bi rfl (by exact Rd.ba 1 rfl) rfl rfl)) rfl ?_; refine GE.V 3 (by as_aux_lemma => kernel_rfl) rfl rfl (bd (ba rfl)) rfl (fun _ _ h => by exact h) (fun _ _ => ?_); refine GE.V 4 (by as_aux_lemma => kernel_rfl) rfl rfl (bd (bg rfl rfl (by exact Rd.ba 0 rfl) rfl rfl)) rfl (fun _ _ h => by exact h) (fun _ _ => ?_); refine GE.V 5 (by as_aux_lemma => kernel_rfl) rfl rfl (bd (bi rfl (by exact Rd.ba 0 rfl) rfl rfl)) rfl (fun _ _ h => by exact h) (fun _ _ => ?_); refine GE.V 6 (by as_aux_lemma => kernel_rfl) rfl rfl (bd (ci rfl rfl)) rfl (fun _ _ h => by exact h) (fun _ _ => ?_); refine GE.V 7 (by as_aux_lemma => kernel_rfl) rfl rfl (bd (ba rfl)) rfl (fun _ _ h => by exact h) (fun _ _ => ?_)
  (with_reducible refine GE.part (t := 28) rfl (fun hg => ?_) (fun hg => ?_)) <;> (try exact Bool.noConfusion hg) <;> (first | refine GE.q 8 rfl (by as_aux_lemma => kernel_rfl) rfl (bc (ba rfl)) rfl ?_ | refine GE.O 8 rfl (by as_aux_lemma => kernel_rfl) rfl rfl ?_)
  all_goals ((first | (refine GE.q 9 rfl (by as_aux_lemma => kernel_rfl) rfl (bc (bg rfl rfl (by exact Rd.ba 1 rfl) rfl rfl)) rfl ?_) | refine GE.O 9 rfl (by as_aux_lemma => kernel_rfl) rfl rfl ?_))
  all_goals ((first | refine GE.q 10 rfl (by as_aux_lemma => kernel_rfl) rfl (bc (bi rfl (by first | exact Rd.ba 0 rfl | exact Rd.ba 1 rfl) rfl rfl)) rfl ?_ | refine GE.O 10 rfl (by as_aux_lemma => kernel_rfl) rfl rfl ?_))
  all_goals ((first | refine GE.q 11 rfl (by as_aux_lemma => kernel_rfl) rfl (bc (ba rfl)) rfl ?_ | refine GE.O 11 rfl (by as_aux_lemma => kernel_rfl) rfl rfl ?_))
  all_goals ((first | (refine GE.q 12 rfl (by as_aux_lemma => kernel_rfl) rfl (bc (bg rfl rfl (by exact Rd.ba 0 rfl) rfl rfl)) rfl ?_) | refine GE.O 12 rfl (by as_aux_lemma => kernel_rfl) rfl rfl ?_))
  all_goals ((first | refine GE.q 13 rfl (by as_aux_lemma => kernel_rfl) rfl (bc (bi rfl (by exact Rd.ba 0 rfl) rfl rfl)) rfl ?_ | refine GE.O 13 rfl (by as_aux_lemma => kernel_rfl) rfl rfl ?_))
  all_goals ((first | refine GE.q 14 rfl (by as_aux_lemma => kernel_rfl) rfl (bc (ci rfl rfl)) rfl ?_ | refine GE.O 14 rfl (by as_aux_lemma => kernel_rfl) rfl rfl ?_))
  all_goals ((first | refine GE.V 15 (by as_aux_lemma => kernel_rfl) rfl rfl (bd (bk rfl rfl)) rfl (fun _ _ h => by exact h) (fun _ _ => ?_) | refine GE.V 15 (by as_aux_lemma => kernel_rfl) rfl rfl (bd (bm rfl rfl)) rfl (fun _ _ h => by exact h) (fun _ _ => ?_)))
  all_goals (refine GE.V 16 (by as_aux_lemma => kernel_rfl) rfl rfl (bd (ba rfl)) rfl (fun _ _ h => by exact h) (fun _ _ => ?_))
  all_goals (((with_reducible refine GE.part (t := 37) rfl (fun hg => ?_) (fun hg => ?_)) <;> (try exact Bool.noConfusion hg) <;> (first | refine GE.q 17 rfl (by as_aux_lemma => kernel_rfl) rfl (bc (ba rfl)) rfl ?_ | refine GE.O 17 rfl (by as_aux_lemma => kernel_rfl) rfl rfl ?_)))
  all_goals ((first | (refine GE.q 18 rfl (by as_aux_lemma => kernel_rfl) rfl (bc (bg rfl rfl (by exact Rd.ba 1 rfl) rfl rfl)) rfl ?_) | refine GE.O 18 rfl (by as_aux_lemma => kernel_rfl) rfl rfl ?_))
  all_goals ((first | refine GE.q 19 rfl (by as_aux_lemma => kernel_rfl) rfl (bc (bi rfl (by first | exact Rd.ba 0 rfl | exact Rd.ba 1 rfl) rfl rfl)) rfl ?_ | refine GE.O 19 rfl (by as_aux_lemma => kernel_rfl) rfl rfl ?_))
  all_goals ((first | refine GE.q 20 rfl (by as_aux_lemma => kernel_rfl) rfl (bc (ba rfl)) rfl ?_ | refine GE.O 20 rfl (by as_aux_lemma => kernel_rfl) rfl rfl ?_))
  all_goals ((first | (refine GE.q 21 rfl (by as_aux_lemma => kernel_rfl) rfl (bc (bg rfl rfl (by exact Rd.ba 0 rfl) rfl rfl)) rfl ?_) | refine GE.O 21 rfl (by as_aux_lemma => kernel_rfl) rfl rfl ?_))
  all_goals ((first | refine GE.q 22 rfl (by as_aux_lemma => kernel_rfl) rfl (bc (bi rfl (by exact Rd.ba 0 rfl) rfl rfl)) rfl ?_ | refine GE.O 22 rfl (by as_aux_lemma => kernel_rfl) rfl rfl ?_))
  all_goals ((first | refine GE.q 23 rfl (by as_aux_lemma => kernel_rfl) rfl (bc (ci rfl rfl)) rfl ?_ | refine GE.O 23 rfl (by as_aux_lemma => kernel_rfl) rfl rfl ?_))
  all_goals ((first | refine GE.V 24 (by as_aux_lemma => kernel_rfl) rfl rfl (bd (bk rfl rfl)) rfl (fun _ _ h => by exact h) (fun _ _ => ?_) | refine GE.V 24 (by as_aux_lemma => kernel_rfl) rfl rfl (bd (bm rfl rfl)) rfl (fun _ _ h => by exact h) (fun _ _ => ?_)))
  all_goals (refine GE.V 25 (by as_aux_lemma => kernel_rfl) rfl rfl (bd (ba rfl)) rfl (fun _ _ h => by exact h) (fun _ _ => ?_))
  all_goals (((with_reducible refine GE.part (t := 46) rfl (fun hg => ?_) (fun hg => ?_)) <;> (try exact Bool.noConfusion hg) <;> (first | (refine GE.q 26 rfl (by as_aux_lemma => kernel_rfl) rfl (bc (be rfl)) rfl ?_) | refine GE.O 26 rfl (by as_aux_lemma => kernel_rfl) rfl rfl ?_)))
  all_goals ((first | (refine GE.q 27 rfl (by as_aux_lemma => kernel_rfl) rfl (bc (bf 3 rfl rfl rfl)) rfl ?_) | refine GE.O 27 rfl (by as_aux_lemma => kernel_rfl) rfl rfl ?_))
  all_goals ((first | (refine GE.q 28 rfl (by as_aux_lemma => kernel_rfl) rfl (bc (be rfl)) rfl ?_) | refine GE.O 28 rfl (by as_aux_lemma => kernel_rfl) rfl rfl ?_))
  all_goals ((first | (refine GE.q 29 rfl (by as_aux_lemma => kernel_rfl) rfl (bc (bf 2 rfl rfl rfl)) rfl ?_) | refine GE.O 29 rfl (by as_aux_lemma => kernel_rfl) rfl rfl ?_))
  all_goals ((first | refine GE.q 30 rfl (by as_aux_lemma => kernel_rfl) rfl (bc (ci rfl rfl)) rfl ?_ | refine GE.O 30 rfl (by as_aux_lemma => kernel_rfl) rfl rfl ?_))
  all_goals ((first | refine GE.V 31 (by as_aux_lemma => kernel_rfl) rfl rfl (bd (bk rfl rfl)) rfl (fun _ _ h => by exact h) (fun _ _ => ?_) | refine GE.V 31 (by as_aux_lemma => kernel_rfl) rfl rfl (bd (bm rfl rfl)) rfl (fun _ _ h => by exact h) (fun _ _ => ?_)))
  all_goals (refine GE.t 32 (by as_aux_lemma => kernel_rfl) rfl rfl rfl (bd (bb rfl)) rfl (fun _ _ => ?_))
  all_goals
   refine GE.E (by as_aux_lemma => kernel_rfl) ?_; refine G.E (G.ret ?_); refine G.U rfl rfl (congrArg Value.bool ?_); simp_all <;> (intros; omega)
theorem fits_any (x : ItemM) (t : TypeM) (w : World) : FnV Tryz.prog 142 [x.val, t.val] w (.bool (fitsM x t)) := by
  obtain ⟨a0, a1, a2, ha⟩ := three (cB [x.w, x.h, x.d])
  obtain ⟨b0, b1, b2, hb⟩ := three (cB [t.w, t.h, t.d])
  have hF : fitsM x t = (decide (a0 ≤ b0) && decide (a1 ≤ b1) && decide (a2 ≤ b2) && decide (x.g ≤ t.g)) := by rw [fitsM, ha, hb]; rfl
  rw [hF]
  refine FnV.of (n := 57) Tryz.func142 rfl rfl ?_; refine G.seq (G.region ?_); refine G.op (bE rfl rfl) rfl (fun bk2 _ => ?_); refine G.op (bE rfl rfl) rfl (fun bk3 _ => ?_); refine G.v (bb rfl) rfl (G.I (G.E (G.seq ?_))); refine G.ba [15] ?_; refine GE.q 0 rfl (by as_aux_lemma => kernel_rfl) rfl (bc (be rfl)) rfl ?_; refine GE.q 1 rfl (by as_aux_lemma => kernel_rfl) rfl (bc (bf 1 rfl rfl rfl)) rfl ?_; refine GE.q 2 rfl (by as_aux_lemma => kernel_rfl) rfl (bc (be rfl)) rfl ?_; refine GE.q 3 rfl (by as_aux_lemma => kernel_rfl) rfl (bc (bf 1 rfl rfl rfl)) rfl ?_; refine GE.q 4 rfl (by as_aux_lemma => kernel_rfl) rfl (bc (be rfl)) rfl ?_; refine GE.q 5 rfl (by as_aux_lemma => kernel_rfl) rfl (bc (bf 1 rfl rfl rfl)) rfl ?_; refine GE.q 7 rfl (by as_aux_lemma => kernel_rfl) rfl (bc (be rfl)) rfl ?_; refine GE.q 8 rfl (by as_aux_lemma => kernel_rfl) rfl (bc (bf 0 rfl rfl rfl)) rfl ?_; refine GE.q 9 rfl (by as_aux_lemma => kernel_rfl) rfl (bc (be rfl)) rfl ?_; refine GE.q 10 rfl (by as_aux_lemma => kernel_rfl) rfl (bc (bf 0 rfl rfl rfl)) rfl ?_; refine GE.q 11 rfl (by as_aux_lemma => kernel_rfl) rfl (bc (be rfl)) rfl ?_; refine GE.q 12 rfl (by as_aux_lemma => kernel_rfl) rfl (bc (bf 0 rfl rfl rfl)) rfl ?_; refine GE.any (rs := [6, 13]) (by as_aux_lemma => kernel_rfl) (by simp) ?_
  refine List.forall_mem_cons.2 ⟨?_, List.forall_mem_cons.2 ⟨?_, fun _ h => absurd h List.not_mem_nil⟩⟩
  focus
   refine GE.I rfl rfl rfl (bq rfl (.cons rfl (.cons rfl (.cons rfl .nil))) rfl rfl rfl rfl rfl rfl) rfl (fun _ _ h => by exact h.drop 1) (fun vx _ => ?_); refine GE.Y 14 rfl (by as_aux_lemma => kernel_rfl) rfl (bc (bb rfl)) (fun _ h => by exact h.drop 1) rfl ?_; refine GE.V 13 (by as_aux_lemma => kernel_rfl) rfl rfl (bq rfl (.cons rfl (.cons rfl (.cons rfl .nil))) rfl rfl rfl rfl rfl rfl) rfl (fun _ _ h => by exact h.drop 2) (fun vy _ => ?_); refine GE.t 15 (by as_aux_lemma => kernel_rfl) rfl rfl rfl (bd (bb rfl)) rfl (fun _ _ => ?_); refine GE.E (by as_aux_lemma => kernel_rfl) ?_
  rotate_left
  focus
   refine GE.I rfl rfl rfl (bq rfl (.cons rfl (.cons rfl (.cons rfl .nil))) rfl rfl rfl rfl rfl rfl) rfl (fun _ _ h => by exact h.drop 1) (fun vy _ => ?_); refine GE.V 6 (by as_aux_lemma => kernel_rfl) rfl rfl (bq rfl (.cons rfl (.cons rfl (.cons rfl .nil))) rfl rfl rfl rfl rfl rfl) rfl (fun _ _ h => by exact h.drop 2) (fun vx _ => ?_); refine GE.V 14 (by as_aux_lemma => kernel_rfl) rfl rfl (bd (bb rfl)) rfl (fun _ _ h => by exact h.drop 2) (fun _ _ => ?_); refine GE.t 15 (by as_aux_lemma => kernel_rfl) rfl rfl rfl (bd (bb rfl)) rfl (fun _ _ => ?_); refine GE.E (by as_aux_lemma => kernel_rfl) ?_
  rotate_left
  all_goals
   refine G.E (G.seq (G.region (G.v (ba rfl) rfl ?_)))
   (first | refine G.bb (vx) rfl ?_ | refine G.bm (vx) rfl ?_); refine G.op (bO rfl rfl rfl (by have hq := fun (F : List Ch) (w0 : World) => sort_any (v := vx) (w0 := w0) (F := F) (ks := [x.w, x.h, x.d]) (by simp); rw [ha] at hq; exact hq _ _)) rfl ?_; rintro ⟨⟩ _; try dsimp only
   refine G.I (G.E (G.seq (G.region (G.v (ba rfl) rfl ?_))))
   (refine G.bm (vy) rfl ?_); refine G.op (bO rfl rfl rfl (by have hq := fun (F : List Ch) (w0 : World) => sort_any (v := vy) (w0 := w0) (F := F) (ks := [t.w, t.h, t.d]) (by simp); rw [hb] at hq; exact hq _ _)) rfl ?_; rintro ⟨⟩ _; try dsimp only
   refine G.I (G.E (G.seq ?_)); refine G.ba [32] ?_; refine GE.q 0 rfl (by as_aux_lemma => kernel_rfl) rfl (bc (ba rfl)) rfl ?_; refine GE.q 1 rfl (by as_aux_lemma => kernel_rfl) rfl (bc (bg rfl rfl (by exact Rd.ba 1 rfl) rfl rfl)) rfl ?_; refine GE.q 2 rfl (by as_aux_lemma => kernel_rfl) rfl (bc (bi rfl (by exact Rd.ba 1 rfl) rfl rfl)) rfl ?_; refine GE.V 3 (by as_aux_lemma => kernel_rfl) rfl rfl (bd (ba rfl)) rfl (fun _ _ h => by exact h) (fun _ _ => ?_); refine GE.V 4 (by as_aux_lemma => kernel_rfl) rfl rfl (bd (bg rfl rfl (by exact Rd.ba 0 rfl) rfl rfl)) rfl (fun _ _ h => by exact h) (fun _ _ => ?_); refine GE.V 5 (by as_aux_lemma => kernel_rfl) rfl rfl (bd (bi rfl (by exact Rd.ba 0 rfl) rfl rfl)) rfl (fun _ _ h => by exact h) (fun _ _ => ?_); refine GE.V 6 (by as_aux_lemma => kernel_rfl) rfl rfl (bd (ci rfl rfl)) rfl (fun _ _ h => by exact h) (fun _ _ => ?_); refine GE.V 7 (by as_aux_lemma => kernel_rfl) rfl rfl (bd (ba rfl)) rfl (fun _ _ h => by exact h) (fun _ _ => ?_)
   all_goals (((with_reducible refine GE.part (t := 32) rfl (fun hg => ?_) (fun hg => ?_)) <;> (try exact Bool.noConfusion hg) <;> (first | refine GE.q 8 rfl (by as_aux_lemma => kernel_rfl) rfl (bc (ba rfl)) rfl ?_ | refine GE.O 8 rfl (by as_aux_lemma => kernel_rfl) rfl rfl ?_)))
   all_goals ((first | (refine GE.q 9 rfl (by as_aux_lemma => kernel_rfl) rfl (bc (bg rfl rfl (by exact Rd.ba 1 rfl) rfl rfl)) rfl ?_) | refine GE.O 9 rfl (by as_aux_lemma => kernel_rfl) rfl rfl ?_))
   all_goals ((first | refine GE.q 10 rfl (by as_aux_lemma => kernel_rfl) rfl (bc (bi rfl (by first | exact Rd.ba 0 rfl | exact Rd.ba 1 rfl) rfl rfl)) rfl ?_ | refine GE.O 10 rfl (by as_aux_lemma => kernel_rfl) rfl rfl ?_))
   all_goals ((first | refine GE.q 11 rfl (by as_aux_lemma => kernel_rfl) rfl (bc (ba rfl)) rfl ?_ | refine GE.O 11 rfl (by as_aux_lemma => kernel_rfl) rfl rfl ?_))
   all_goals ((first | (refine GE.q 12 rfl (by as_aux_lemma => kernel_rfl) rfl (bc (bg rfl rfl (by exact Rd.ba 0 rfl) rfl rfl)) rfl ?_) | refine GE.O 12 rfl (by as_aux_lemma => kernel_rfl) rfl rfl ?_))
   all_goals ((first | refine GE.q 13 rfl (by as_aux_lemma => kernel_rfl) rfl (bc (bi rfl (by exact Rd.ba 0 rfl) rfl rfl)) rfl ?_ | refine GE.O 13 rfl (by as_aux_lemma => kernel_rfl) rfl rfl ?_))
   all_goals ((first | refine GE.q 14 rfl (by as_aux_lemma => kernel_rfl) rfl (bc (ci rfl rfl)) rfl ?_ | refine GE.O 14 rfl (by as_aux_lemma => kernel_rfl) rfl rfl ?_))
   all_goals ((first | refine GE.V 15 (by as_aux_lemma => kernel_rfl) rfl rfl (bd (bk rfl rfl)) rfl (fun _ _ h => by exact h) (fun _ _ => ?_) | refine GE.V 15 (by as_aux_lemma => kernel_rfl) rfl rfl (bd (bm rfl rfl)) rfl (fun _ _ h => by exact h) (fun _ _ => ?_)))
   all_goals (refine GE.V 16 (by as_aux_lemma => kernel_rfl) rfl rfl (bd (ba rfl)) rfl (fun _ _ h => by exact h) (fun _ _ => ?_))
   all_goals (((with_reducible refine GE.part (t := 41) rfl (fun hg => ?_) (fun hg => ?_)) <;> (try exact Bool.noConfusion hg) <;> (first | refine GE.q 17 rfl (by as_aux_lemma => kernel_rfl) rfl (bc (ba rfl)) rfl ?_ | refine GE.O 17 rfl (by as_aux_lemma => kernel_rfl) rfl rfl ?_)))
   all_goals ((first | (refine GE.q 18 rfl (by as_aux_lemma => kernel_rfl) rfl (bc (bg rfl rfl (by exact Rd.ba 1 rfl) rfl rfl)) rfl ?_) | refine GE.O 18 rfl (by as_aux_lemma => kernel_rfl) rfl rfl ?_))
   all_goals ((first | refine GE.q 19 rfl (by as_aux_lemma => kernel_rfl) rfl (bc (bi rfl (by first | exact Rd.ba 0 rfl | exact Rd.ba 1 rfl) rfl rfl)) rfl ?_ | refine GE.O 19 rfl (by as_aux_lemma => kernel_rfl) rfl rfl ?_))
   all_goals ((first | refine GE.q 20 rfl (by as_aux_lemma => kernel_rfl) rfl (bc (ba rfl)) rfl ?_ | refine GE.O 20 rfl (by as_aux_lemma => kernel_rfl) rfl rfl ?_))
   all_goals ((first | (refine GE.q 21 rfl (by as_aux_lemma => kernel_rfl) rfl (bc (bg rfl rfl (by exact Rd.ba 0 rfl) rfl rfl)) rfl ?_) | refine GE.O 21 rfl (by as_aux_lemma => kernel_rfl) rfl rfl ?_))
   all_goals ((first | refine GE.q 22 rfl (by as_aux_lemma => kernel_rfl) rfl (bc (bi rfl (by exact Rd.ba 0 rfl) rfl rfl)) rfl ?_ | refine GE.O 22 rfl (by as_aux_lemma => kernel_rfl) rfl rfl ?_))
   all_goals ((first | refine GE.q 23 rfl (by as_aux_lemma => kernel_rfl) rfl (bc (ci rfl rfl)) rfl ?_ | refine GE.O 23 rfl (by as_aux_lemma => kernel_rfl) rfl rfl ?_))
   all_goals ((first | refine GE.V 24 (by as_aux_lemma => kernel_rfl) rfl rfl (bd (bk rfl rfl)) rfl (fun _ _ h => by exact h) (fun _ _ => ?_) | refine GE.V 24 (by as_aux_lemma => kernel_rfl) rfl rfl (bd (bm rfl rfl)) rfl (fun _ _ h => by exact h) (fun _ _ => ?_)))
   all_goals (refine GE.V 25 (by as_aux_lemma => kernel_rfl) rfl rfl (bd (ba rfl)) rfl (fun _ _ h => by exact h) (fun _ _ => ?_))
   all_goals (((with_reducible refine GE.part (t := 50) rfl (fun hg => ?_) (fun hg => ?_)) <;> (try exact Bool.noConfusion hg) <;> (first | (refine GE.q 26 rfl (by as_aux_lemma => kernel_rfl) rfl (bc (be rfl)) rfl ?_) | refine GE.O 26 rfl (by as_aux_lemma => kernel_rfl) rfl rfl ?_)))
   all_goals ((first | (refine GE.q 27 rfl (by as_aux_lemma => kernel_rfl) rfl (bc (bf 3 rfl rfl rfl)) rfl ?_) | refine GE.O 27 rfl (by as_aux_lemma => kernel_rfl) rfl rfl ?_))
   all_goals ((first | (refine GE.q 28 rfl (by as_aux_lemma => kernel_rfl) rfl (bc (be rfl)) rfl ?_) | refine GE.O 28 rfl (by as_aux_lemma => kernel_rfl) rfl rfl ?_))
   all_goals ((first | (refine GE.q 29 rfl (by as_aux_lemma => kernel_rfl) rfl (bc (bf 2 rfl rfl rfl)) rfl ?_) | refine GE.O 29 rfl (by as_aux_lemma => kernel_rfl) rfl rfl ?_))
   all_goals ((first | refine GE.q 30 rfl (by as_aux_lemma => kernel_rfl) rfl (bc (ci rfl rfl)) rfl ?_ | refine GE.O 30 rfl (by as_aux_lemma => kernel_rfl) rfl rfl ?_))
   all_goals ((first | refine GE.V 31 (by as_aux_lemma => kernel_rfl) rfl rfl (bd (bk rfl rfl)) rfl (fun _ _ h => by exact h) (fun _ _ => ?_) | refine GE.V 31 (by as_aux_lemma => kernel_rfl) rfl rfl (bd (bm rfl rfl)) rfl (fun _ _ h => by exact h) (fun _ _ => ?_)))
   all_goals (refine GE.t 32 (by as_aux_lemma => kernel_rfl) rfl rfl rfl (bd (bb rfl)) rfl (fun _ _ => ?_))
   all_goals
    refine GE.E (by as_aux_lemma => kernel_rfl) ?_; refine G.E (G.ret ?_); refine G.U rfl rfl (congrArg Value.bool ?_); simp_all <;> (intros; omega)
end Go.Proofs.YtglpgohilfoecaaGreat

/-
  Orders that are copied and compared.
-/
namespace Go.Proofs.YtglpgohilfoecaaGreat
open Go.RowKit
attribute [local irreducible] Go.wpList Go.Code.wp Go.Exit.then Go.Exit.inBlock Go.bodyPost Go.Calls pE pB G RunsV FnV Fn FnM
set_option maxRecDepth 100000
end Go.Proofs.YtglpgohilfoecaaGreat

/-
  Whole orders, copied and compared; what is found in them; their bounds.
-/
namespace Go.Proofs.YtglpgohilfoecaaGreat
open Go.RowKit
attribute [local irreducible] Go.wpList Go.Code.wp Go.Exit.then Go.Exit.inBlock Go.bodyPost Go.Calls pE pB G RunsV FnV Fn FnM
set_option maxRecDepth 100000
set_option maxHeartbeats 1000000
def reqN (r : ReqM) : Nat := r.pairs.length + r.types.length + r.items.length
theorem indexPair_any {g : Nat} [FnOk Tryz.prog g] {cap : List Value} {v : Value} {l : List PairM} {p : PairM → Bool} (w : World) (h : Rd w v 2 (l.map PairM.cells)) (hf : ∀ (w' : World) (k : Nat) (b : PairM), HeapOk w w' [] → l[k]? = some b → FnV Tryz.prog g ([.agg (PairM.cells b).toArray] ++ cap) w' (.bool (p b))) :
    FnV Tryz.prog 240 [v, .func (.func g) #[] cap.toArray] w (.int .i64 (idxM p l)) := by
  have hle := h.le_map
  have hln : (l.map PairM.cells).length = l.length := by simp
  refine FnV.of (n := 19) Tryz.func240 rfl rfl ?_; refine G.seq (G.region (G.v (bb rfl) rfl (G.I (G.E (G.seq (G.seq (G.region (G.v (ba rfl) rfl ?_)))))))); refine G.v (bz rfl (by exact Rd.stays (by assumption))) rfl ?_; refine G.v (ba rfl) rfl (G.I (G.E (G.block ?_))); refine G.Y (ι := Nat) (ks := [0, 1, 7]) (fun k => [(8, .int .i64 k)]) (fun _ => []) (fun k => k ≤ l.length ∧ (l.take k).any p = false) (fun k => l.length - k) 0 (.cons rfl (.cons rfl (.cons rfl (.nil)))) rfl ?_ ?_ ?_
  exact ⟨Nat.zero_le _, rfl⟩
  exact ⟨rfl, trivial⟩
  rintro k ⟨hk, ht⟩
  by_cases hlt : k < l.length
  case' pos => (obtain ⟨b, hb⟩ := bn hlt; have he := bt hb PairM.cells)
  all_goals
   refine G.seq (G.region (G.v (br rfl rfl) rfl (G.I (G.E (G.seq ?_))))); refine G.cond rfl (fun hc => ?_) (fun hc => ?_)
   · all_goals
      replace hc := of_decide_eq_true hc
      try (exfalso; omega)
      all_goals
       refine G.skip (G.E (G.seq (G.block (G.seq (G.region (G.v (ba rfl) rfl (G.v (bb rfl) rfl (G.I (G.E (G.seq (G.region ?_))))))))))); refine G.v (ba rfl) rfl (G.v (ba rfl) rfl (G.v (ba rfl) rfl ?_)); refine G.v (bg rfl rfl (by exact Rd.stays (by assumption)) rfl (by assumption)) rfl ?_; refine G.v (bN rfl (by exact Rd.stays (by assumption)) (by assumption) rfl) rfl ?_; refine G.op (bh rfl rfl (fun w hh => hf w k b hh.none hb)) rfl (fun _ _ => ?_); refine G.I (G.E ?_); refine G.cond rfl (fun hc => ?_) (fun hc => ?_)
       · all_goals
          all_goals
           refine G.seq (G.region (G.v (ba rfl) rfl (G.v (bb rfl) rfl (G.I (G.E (G.ret (G.bq (G.O (G.O (G.bq (G.O ?_)))))))))))
           exact G.U rfl rfl (congrArg (Value.int .i64) (di ht hb hc).symm)
       · all_goals
          all_goals
           refine G.skip (G.bc (G.E (G.region ?_))); refine G.v (bp rfl rfl (by omega)) rfl ?_; refine G.v (ba rfl) rfl (G.I ?_); refine G.V (k + 1) 0 rfl (.cons rfl (.cons rfl (.cons rfl (.nil)))) ?_ ?_ ?_
           exact ⟨rfl, trivial⟩
           exact ⟨hlt, cc ht hb hc⟩
           omega
   · all_goals
      replace hc := of_decide_eq_false hc
      try (exfalso; omega)
      all_goals
       refine G.exit (G.L (G.L (G.bn (G.E (G.seq (G.region (G.v (bb rfl) rfl (G.I (G.E (G.ret ?_))))))))))
       exact G.U rfl rfl (congrArg (Value.int .i64) (cy ht hlt).symm)
theorem containsPair_any {g : Nat} [FnOk Tryz.prog g] {cap : List Value} {v : Value} {l : List PairM} {p : PairM → Bool} (w : World) (h : Rd w v 2 (l.map PairM.cells)) (hf : ∀ (w' : World) (k : Nat) (b : PairM), HeapOk w w' [] → l[k]? = some b → FnV Tryz.prog g ([.agg (PairM.cells b).toArray] ++ cap) w' (.bool (p b))) :
    FnV Tryz.prog 221 [v, .func (.func g) #[] cap.toArray] w (.bool (l.any p)) := by
  refine FnV.of (n := 9) Tryz.func221 rfl rfl ?_; refine G.seq (G.region (G.v (bb rfl) rfl (G.I (G.E (G.seq (G.region (G.v (ba rfl) rfl (G.v (ba rfl) rfl ?_)))))))); refine G.op (bh rfl rfl (fun w hh => indexPair_any w (Rd.stays h _ hh) (fun w' k b hw hb => hf w' k b ((hh.call hw).none) hb))) rfl (fun _ _ => ?_); refine G.v (cu rfl rfl) rfl (G.v (bb rfl) rfl (G.I (G.E (G.ret ?_))))
  exact G.U rfl rfl (congrArg Value.bool (cT p l))

theorem indexType_any {g : Nat} [FnOk Tryz.prog g] {cap : List Value} {v : Value} {l : List TypeM} {p : TypeM → Bool} (w : World) (h : Rd w v 7 (l.map TypeM.cells)) (hf : ∀ (w' : World) (k : Nat) (b : TypeM), HeapOk w w' [] → l[k]? = some b → FnV Tryz.prog g ([.agg (TypeM.cells b).toArray] ++ cap) w' (.bool (p b))) :
    FnV Tryz.prog 77 [v, .func (.func g) #[] cap.toArray] w (.int .i64 (idxM p l)) := by
  have hle := h.le_map
  have hln : (l.map TypeM.cells).length = l.length := by simp
  refine FnV.of (n := 19) Tryz.func77 rfl rfl ?_; refine G.seq (G.region (G.v (bb rfl) rfl (G.I (G.E (G.seq (G.seq (G.region (G.v (ba rfl) rfl ?_)))))))); refine G.v (bz rfl (by exact Rd.stays (by assumption))) rfl ?_; refine G.v (ba rfl) rfl (G.I (G.E (G.block ?_))); refine G.Y (ι := Nat) (ks := [0, 1, 7]) (fun k => [(8, .int .i64 k)]) (fun _ => []) (fun k => k ≤ l.length ∧ (l.take k).any p = false) (fun k => l.length - k) 0 (.cons rfl (.cons rfl (.cons rfl (.nil)))) rfl ?_ ?_ ?_
  exact ⟨Nat.zero_le _, rfl⟩
  exact ⟨rfl, trivial⟩
  rintro k ⟨hk, ht⟩
  by_cases hlt : k < l.length
  case' pos => (obtain ⟨b, hb⟩ := bn hlt; have he := bt hb TypeM.cells)
  all_goals
   refine G.seq (G.region (G.v (br rfl rfl) rfl (G.I (G.E (G.seq ?_))))); refine G.cond rfl (fun hc => ?_) (fun hc => ?_)
   · all_goals
      replace hc := of_decide_eq_true hc
      try (exfalso; omega)
      all_goals
       refine G.skip (G.E (G.seq (G.block (G.seq (G.region (G.v (ba rfl) rfl (G.v (bb rfl) rfl (G.I (G.E (G.seq (G.region ?_))))))))))); refine G.v (ba rfl) rfl (G.v (ba rfl) rfl (G.v (ba rfl) rfl ?_)); refine G.v (bg rfl rfl (by exact Rd.stays (by assumption)) rfl (by assumption)) rfl ?_; refine G.v (bN rfl (by exact Rd.stays (by assumption)) (by assumption) rfl) rfl ?_; refine G.op (bh rfl rfl (fun w hh => hf w k b hh.none hb)) rfl (fun _ _ => ?_); refine G.I (G.E ?_); refine G.cond rfl (fun hc => ?_) (fun hc => ?_)
       · all_goals
          all_goals
           refine G.seq (G.region (G.v (ba rfl) rfl (G.v (bb rfl) rfl (G.I (G.E (G.ret (G.bq (G.O (G.O (G.bq (G.O ?_)))))))))))
           exact G.U rfl rfl (congrArg (Value.int .i64) (di ht hb hc).symm)
       · all_goals
          all_goals
           refine G.skip (G.bc (G.E (G.region ?_))); refine G.v (bp rfl rfl (by omega)) rfl ?_; refine G.v (ba rfl) rfl (G.I ?_); refine G.V (k + 1) 0 rfl (.cons rfl (.cons rfl (.cons rfl (.nil)))) ?_ ?_ ?_
           exact ⟨rfl, trivial⟩
           exact ⟨hlt, cc ht hb hc⟩
           omega
   · all_goals
      replace hc := of_decide_eq_false hc
      try (exfalso; omega)
      all_goals
       refine G.exit (G.L (G.L (G.bn (G.E (G.seq (G.region (G.v (bb rfl) rfl (G.I (G.E (G.ret ?_))))))))))
       exact G.U rfl rfl (congrArg (Value.int .i64) (cy ht hlt).symm)
theorem containsType_any {g : Nat} [FnOk Tryz.prog g] {cap : List Value} {v : Value} {l : List TypeM} {p : TypeM → Bool} (w : World) (h : Rd w v 7 (l.map TypeM.cells)) (hf : ∀ (w' : World) (k : Nat) (b : TypeM), HeapOk w w' [] → l[k]? = some b → FnV Tryz.prog g ([.agg (TypeM.cells b).toArray] ++ cap) w' (.bool (p b))) :
    FnV Tryz.prog 174 [v, .func (.func g) #[] cap.toArray] w (.bool (l.any p)) := by
  refine FnV.of (n := 9) Tryz.func174 rfl rfl ?_; refine G.seq (G.region (G.v (bb rfl) rfl (G.I (G.E (G.seq (G.region (G.v (ba rfl) rfl (G.v (ba rfl) rfl ?_)))))))); refine G.op (bh rfl rfl (fun w hh => indexType_any w (Rd.stays h _ hh) (fun w' k b hw hb => hf w' k b ((hh.call hw).none) hb))) rfl (fun _ _ => ?_); refine G.v (cu rfl rfl) rfl (G.v (bb rfl) rfl (G.I (G.E (G.ret ?_))))
  exact G.U rfl rfl (congrArg Value.bool (cT p l))

theorem indexItem_any {g : Nat} [FnOk Tryz.prog g] {cap : List Value} {v : Value} {l : List ItemM} {p : ItemM → Bool} (w : World) (h : Rd w v 7 (l.map ItemM.cells)) (hf : ∀ (w' : World) (k : Nat) (b : ItemM), HeapOk w w' [] → l[k]? = some b → FnV Tryz.prog g ([.agg (ItemM.cells b).toArray] ++ cap) w' (.bool (p b))) :
    FnV Tryz.prog 202 [v, .func (.func g) #[] cap.toArray] w (.int .i64 (idxM p l)) := by
  have hle := h.le_map
  have hln : (l.map ItemM.cells).length = l.length := by simp
  refine FnV.of (n := 19) Tryz.func202 rfl rfl ?_; refine G.seq (G.region (G.v (bb rfl) rfl (G.I (G.E (G.seq (G.seq (G.region (G.v (ba rfl) rfl ?_)))))))); refine G.v (bz rfl (by exact Rd.stays (by assumption))) rfl ?_; refine G.v (ba rfl) rfl (G.I (G.E (G.block ?_))); refine G.Y (ι := Nat) (ks := [0, 1, 7]) (fun k => [(8, .int .i64 k)]) (fun _ => []) (fun k => k ≤ l.length ∧ (l.take k).any p = false) (fun k => l.length - k) 0 (.cons rfl (.cons rfl (.cons rfl (.nil)))) rfl ?_ ?_ ?_
  exact ⟨Nat.zero_le _, rfl⟩
  exact ⟨rfl, trivial⟩
  rintro k ⟨hk, ht⟩
  by_cases hlt : k < l.length
  case' pos => (obtain ⟨b, hb⟩ := bn hlt; have he := bt hb ItemM.cells)
  all_goals
   refine G.seq (G.region (G.v (br rfl rfl) rfl (G.I (G.E (G.seq ?_))))); refine G.cond rfl (fun hc => ?_) (fun hc => ?_)
   · all_goals
      replace hc := of_decide_eq_true hc
      try (exfalso; omega)
      all_goals
       refine G.skip (G.E (G.seq (G.block (G.seq (G.region (G.v (ba rfl) rfl (G.v (bb rfl) rfl (G.I (G.E (G.seq (G.region ?_))))))))))); refine G.v (ba rfl) rfl (G.v (ba rfl) rfl (G.v (ba rfl) rfl ?_)); refine G.v (bg rfl rfl (by exact Rd.stays (by assumption)) rfl (by assumption)) rfl ?_; refine G.v (bN rfl (by exact Rd.stays (by assumption)) (by assumption) rfl) rfl ?_; refine G.op (bh rfl rfl (fun w hh => hf w k b hh.none hb)) rfl (fun _ _ => ?_); refine G.I (G.E ?_); refine G.cond rfl (fun hc => ?_) (fun hc => ?_)
       · all_goals
          all_goals
           refine G.seq (G.region (G.v (ba rfl) rfl (G.v (bb rfl) rfl (G.I (G.E (G.ret (G.bq (G.O (G.O (G.bq (G.O ?_)))))))))))
           exact G.U rfl rfl (congrArg (Value.int .i64) (di ht hb hc).symm)
       · all_goals
          all_goals
           refine G.skip (G.bc (G.E (G.region ?_))); refine G.v (bp rfl rfl (by omega)) rfl ?_; refine G.v (ba rfl) rfl (G.I ?_); refine G.V (k + 1) 0 rfl (.cons rfl (.cons rfl (.cons rfl (.nil)))) ?_ ?_ ?_
           exact ⟨rfl, trivial⟩
           exact ⟨hlt, cc ht hb hc⟩
           omega
   · all_goals
      replace hc := of_decide_eq_false hc
      try (exfalso; omega)
      all_goals
       refine G.exit (G.L (G.L (G.bn (G.E (G.seq (G.region (G.v (bb rfl) rfl (G.I (G.E (G.ret ?_))))))))))
       exact G.U rfl rfl (congrArg (Value.int .i64) (cy ht hlt).symm)
theorem containsItem_any {g : Nat} [FnOk Tryz.prog g] {cap : List Value} {v : Value} {l : List ItemM} {p : ItemM → Bool} (w : World) (h : Rd w v 7 (l.map ItemM.cells)) (hf : ∀ (w' : World) (k : Nat) (b : ItemM), HeapOk w w' [] → l[k]? = some b → FnV Tryz.prog g ([.agg (ItemM.cells b).toArray] ++ cap) w' (.bool (p b))) :
    FnV Tryz.prog 140 [v, .func (.func g) #[] cap.toArray] w (.bool (l.any p)) := by
  refine FnV.of (n := 9) Tryz.func140 rfl rfl ?_; refine G.seq (G.region (G.v (bb rfl) rfl (G.I (G.E (G.seq (G.region (G.v (ba rfl) rfl (G.v (ba rfl) rfl ?_)))))))); refine G.op (bh rfl rfl (fun w hh => indexItem_any w (Rd.stays h _ hh) (fun w' k b hw hb => hf w' k b ((hh.call hw).none) hb))) rfl (fun _ _ => ?_); refine G.v (cu rfl rfl) rfl (G.v (bb rfl) rfl (G.I (G.E (G.ret ?_))))
  exact G.U rfl rfl (congrArg Value.bool (cT p l))

theorem itemOk_any (x : ItemM) (w : World) : FnV Tryz.prog 225 [x.val] w (.bool (itemOkM x)) := by
  refine FnV.of (n := 36) Tryz.func225 rfl rfl ?_; refine G.seq (G.region ?_); refine G.op (bE rfl rfl) rfl (fun bk1 _ => ?_); refine G.v (bb rfl) rfl (G.I (G.E (G.seq (G.region (G.v (be rfl) rfl (G.v (bf 0 rfl rfl rfl) rfl ?_)))))); refine G.op (bh rfl rfl (fun w _ => b5 _ _ _ w)) rfl (fun _ _ => ?_); refine G.v (ba rfl) rfl ?_
  (with_reducible refine G.gP rfl rfl (fun hg => ?_) (fun hg => ?_)) <;> (try exact Bool.noConfusion hg) <;> (first | (refine G.gY rfl rfl ?_; (refine G.v (be rfl) rfl ?_)) | refine G.gN rfl rfl rfl ?_)
  all_goals ((first | (refine G.gY rfl rfl ?_; refine G.v (bf 0 rfl rfl rfl) rfl ?_) | refine G.gN rfl rfl rfl ?_))
  all_goals ((first | (refine G.gY rfl rfl ?_; refine G.op (bh rfl rfl (fun w _ => cE _ w)) rfl (fun _ _ => ?_)) | refine G.gN rfl rfl rfl ?_))
  all_goals ((first | refine G.v (bk rfl rfl) rfl ?_ | refine G.v (bm rfl rfl) rfl ?_))
  all_goals (refine G.v (ba rfl) rfl ?_)
  all_goals (((with_reducible refine G.gP rfl rfl (fun hg => ?_) (fun hg => ?_)) <;> (try exact Bool.noConfusion hg) <;> (first | (refine G.gY rfl rfl ?_; (refine G.v (be rfl) rfl ?_)) | refine G.gN rfl rfl rfl ?_)))
  all_goals ((first | (refine G.gY rfl rfl ?_; refine G.v (bf 0 rfl rfl rfl) rfl ?_) | refine G.gN rfl rfl rfl ?_))
  all_goals ((first | (refine G.gY rfl rfl ?_; refine G.op (bh rfl rfl (fun w _ => cE _ w)) rfl (fun _ _ => ?_)) | refine G.gN rfl rfl rfl ?_))
  all_goals ((first | refine G.v (bk rfl rfl) rfl ?_ | refine G.v (bm rfl rfl) rfl ?_))
  all_goals (refine G.v (ba rfl) rfl ?_)
  all_goals (((with_reducible refine G.gP rfl rfl (fun hg => ?_) (fun hg => ?_)) <;> (try exact Bool.noConfusion hg) <;> (first | (refine G.gY rfl rfl ?_; (refine G.v (be rfl) rfl ?_)) | refine G.gN rfl rfl rfl ?_)))
  all_goals ((first | (refine G.gY rfl rfl ?_; refine G.v (bf 0 rfl rfl rfl) rfl ?_) | refine G.gN rfl rfl rfl ?_))
  all_goals ((first | (refine G.gY rfl rfl ?_; refine G.op (bh rfl rfl (fun w _ => cE _ w)) rfl (fun _ _ => ?_)) | refine G.gN rfl rfl rfl ?_))
  all_goals ((first | refine G.v (bk rfl rfl) rfl ?_ | refine G.v (bm rfl rfl) rfl ?_))
  all_goals (refine G.v (ba rfl) rfl ?_)
  all_goals (((with_reducible refine G.gP rfl rfl (fun hg => ?_) (fun hg => ?_)) <;> (try exact Bool.noConfusion hg) <;> (first | (refine G.gY rfl rfl ?_; (refine G.v (be rfl) rfl ?_)) | refine G.gN rfl rfl rfl ?_)))
  all_goals ((first | (refine G.gY rfl rfl ?_; refine G.v (bf 0 rfl rfl rfl) rfl ?_) | refine G.gN rfl rfl rfl ?_))
  all_goals ((first | (refine G.gY rfl rfl ?_; refine G.op (bh rfl rfl (fun w _ => b5 _ _ _ w)) rfl (fun _ _ => ?_)) | refine G.gN rfl rfl rfl ?_))
  all_goals ((first | refine G.v (bk rfl rfl) rfl ?_ | refine G.v (bm rfl rfl) rfl ?_))
  all_goals (refine G.v (ba rfl) rfl ?_)
  all_goals (((with_reducible refine G.gP rfl rfl (fun hg => ?_) (fun hg => ?_)) <;> (try exact Bool.noConfusion hg) <;> (first | (refine G.gY rfl rfl ?_; (refine G.v (be rfl) rfl ?_)) | refine G.gN rfl rfl rfl ?_)))
  all_goals ((first | (refine G.gY rfl rfl ?_; refine G.v (bf 0 rfl rfl rfl) rfl ?_) | refine G.gN rfl rfl rfl ?_))
  all_goals ((first | (refine G.gY rfl rfl ?_; refine G.op (bh rfl rfl (fun w _ => b5 _ _ _ w)) rfl (fun _ _ => ?_)) | refine G.gN rfl rfl rfl ?_))
  all_goals ((first | refine G.v (bk rfl rfl) rfl ?_ | refine G.v (bm rfl rfl) rfl ?_))
  all_goals (refine G.v (ba rfl) rfl ?_)
  all_goals (((with_reducible refine G.gP rfl rfl (fun hg => ?_) (fun hg => ?_)) <;> (try exact Bool.noConfusion hg) <;> (first | (refine G.gY rfl rfl ?_; (refine G.v (be rfl) rfl ?_)) | refine G.gN rfl rfl rfl ?_)))
  all_goals ((first | (refine G.gY rfl rfl ?_; refine G.v (bf 0 rfl rfl rfl) rfl ?_) | refine G.gN rfl rfl rfl ?_))
  all_goals ((first | (refine G.gY rfl rfl ?_; refine G.op (bh rfl rfl (fun w _ => b5 _ _ _ w)) rfl (fun _ _ => ?_)) | refine G.gN rfl rfl rfl ?_))
  all_goals ((first | refine G.v (bk rfl rfl) rfl ?_ | refine G.v (bm rfl rfl) rfl ?_))
  all_goals (refine G.v (bb rfl) rfl ?_)
  all_goals
   refine G.I (G.E (G.ret ?_)); refine G.U rfl rfl ?_; simp_all [itemOkM]
theorem sitemOk_any (x : ItemM) (w : World) : FnV Tryz.prog 150 [x.val] w (.bool (itemOkM x)) := by
  refine FnV.of (n := 36) Tryz.func150 rfl rfl ?_; refine G.seq (G.region ?_); refine G.op (bE rfl rfl) rfl (fun bk1 _ => ?_); refine G.v (bb rfl) rfl (G.I (G.E (G.seq (G.region (G.v (be rfl) rfl (G.v (bf 0 rfl rfl rfl) rfl ?_)))))); refine G.op (bh rfl rfl (fun w _ => l2Id_any _ w)) rfl (fun _ _ => ?_); refine G.v (ba rfl) rfl ?_
  (with_reducible refine G.gP rfl rfl (fun hg => ?_) (fun hg => ?_)) <;> (try exact Bool.noConfusion hg) <;> (first | (refine G.gY rfl rfl ?_; (refine G.v (be rfl) rfl ?_)) | refine G.gN rfl rfl rfl ?_)
  all_goals ((first | (refine G.gY rfl rfl ?_; refine G.v (bf 0 rfl rfl rfl) rfl ?_) | refine G.gN rfl rfl rfl ?_))
  all_goals ((first | (refine G.gY rfl rfl ?_; refine G.op (bh rfl rfl (fun w _ => cF _ w)) rfl (fun _ _ => ?_)) | refine G.gN rfl rfl rfl ?_))
  all_goals ((first | refine G.v (bk rfl rfl) rfl ?_ | refine G.v (bm rfl rfl) rfl ?_))
  all_goals (refine G.v (ba rfl) rfl ?_)
  all_goals (((with_reducible refine G.gP rfl rfl (fun hg => ?_) (fun hg => ?_)) <;> (try exact Bool.noConfusion hg) <;> (first | (refine G.gY rfl rfl ?_; (refine G.v (be rfl) rfl ?_)) | refine G.gN rfl rfl rfl ?_)))
  all_goals ((first | (refine G.gY rfl rfl ?_; refine G.v (bf 0 rfl rfl rfl) rfl ?_) | refine G.gN rfl rfl rfl ?_))
  all_goals ((first | (refine G.gY rfl rfl ?_; refine G.op (bh rfl rfl (fun w _ => cF _ w)) rfl (fun _ _ => ?_)) | refine G.gN rfl rfl rfl ?_))
  all_goals ((first | refine G.v (bk rfl rfl) rfl ?_ | refine G.v (bm rfl rfl) rfl ?_))
  all_goals (refine G.v (ba rfl) rfl ?_)
  all_goals (((with_reducible refine G.gP rfl rfl (fun hg => ?_) (fun hg => ?_)) <;> (try exact Bool.noConfusion hg) <;> (first | (refine G.gY rfl rfl ?_; (refine G.v (be rfl) rfl ?_)) | refine G.gN rfl rfl rfl ?_)))
  all_goals ((first | (refine G.gY rfl rfl ?_; refine G.v (bf 0 rfl rfl rfl) rfl ?_) | refine G.gN rfl rfl rfl ?_))
  all_goals ((first | (refine G.gY rfl rfl ?_; refine G.op (bh rfl rfl (fun w _ => cF _ w)) rfl (fun _ _ => ?_)) | refine G.gN rfl rfl rfl ?_))
  all_goals ((first | refine G.v (bk rfl rfl) rfl ?_ | refine G.v (bm rfl rfl) rfl ?_))
  all_goals (refine G.v (ba rfl) rfl ?_)
  all_goals (((with_reducible refine G.gP rfl rfl (fun hg => ?_) (fun hg => ?_)) <;> (try exact Bool.noConfusion hg) <;> (first | (refine G.gY rfl rfl ?_; (refine G.v (be rfl) rfl ?_)) | refine G.gN rfl rfl rfl ?_)))
  all_goals ((first | (refine G.gY rfl rfl ?_; refine G.v (bf 0 rfl rfl rfl) rfl ?_) | refine G.gN rfl rfl rfl ?_))
  all_goals ((first | (refine G.gY rfl rfl ?_; refine G.op (bh rfl rfl (fun w _ => b7 _ _ _ w)) rfl (fun _ _ => ?_)) | refine G.gN rfl rfl rfl ?_))
  all_goals ((first | refine G.v (bk rfl rfl) rfl ?_ | refine G.v (bm rfl rfl) rfl ?_))
  all_goals (refine G.v (ba rfl) rfl ?_)
  all_goals (((with_reducible refine G.gP rfl rfl (fun hg => ?_) (fun hg => ?_)) <;> (try exact Bool.noConfusion hg) <;> (first | (refine G.gY rfl rfl ?_; (refine G.v (be rfl) rfl ?_)) | refine G.gN rfl rfl rfl ?_)))
  all_goals ((first | (refine G.gY rfl rfl ?_; refine G.v (bf 0 rfl rfl rfl) rfl ?_) | refine G.gN rfl rfl rfl ?_))
  all_goals ((first | (refine G.gY rfl rfl ?_; refine G.op (bh rfl rfl (fun w _ => b7 _ _ _ w)) rfl (fun _ _ => ?_)) | refine G.gN rfl rfl rfl ?_))
  all_goals ((first | refine G.v (bk rfl rfl) rfl ?_ | refine G.v (bm rfl rfl) rfl ?_))
  all_goals (refine G.v (ba rfl) rfl ?_)
  all_goals (((with_reducible refine G.gP rfl rfl (fun hg => ?_) (fun hg => ?_)) <;> (try exact Bool.noConfusion hg) <;> (first | (refine G.gY rfl rfl ?_; (refine G.v (be rfl) rfl ?_)) | refine G.gN rfl rfl rfl ?_)))
  all_goals ((first | (refine G.gY rfl rfl ?_; refine G.v (bf 0 rfl rfl rfl) rfl ?_) | refine G.gN rfl rfl rfl ?_))
  all_goals ((first | (refine G.gY rfl rfl ?_; refine G.op (bh rfl rfl (fun w _ => b7 _ _ _ w)) rfl (fun _ _ => ?_)) | refine G.gN rfl rfl rfl ?_))
  all_goals ((first | refine G.v (bk rfl rfl) rfl ?_ | refine G.v (bm rfl rfl) rfl ?_))
  all_goals (refine G.v (bb rfl) rfl ?_)
  all_goals
   refine G.I (G.E (G.ret ?_)); refine G.U rfl rfl ?_; simp_all [itemOkM]
theorem typeOk_any (x : TypeM) (w : World) : FnV Tryz.prog 224 [x.val] w (.bool (typeOkM x)) := by
  refine FnV.of (n := 36) Tryz.func224 rfl rfl ?_; refine G.seq (G.region ?_); refine G.op (bE rfl rfl) rfl (fun bk1 _ => ?_); refine G.v (bb rfl) rfl (G.I (G.E (G.seq (G.region (G.v (be rfl) rfl (G.v (bf 0 rfl rfl rfl) rfl ?_)))))); refine G.op (bh rfl rfl (fun w _ => b5 _ _ _ w)) rfl (fun _ _ => ?_); refine G.v (ba rfl) rfl ?_
  (with_reducible refine G.gP rfl rfl (fun hg => ?_) (fun hg => ?_)) <;> (try exact Bool.noConfusion hg) <;> (first | (refine G.gY rfl rfl ?_; (refine G.v (be rfl) rfl ?_)) | refine G.gN rfl rfl rfl ?_)
  all_goals ((first | (refine G.gY rfl rfl ?_; refine G.v (bf 0 rfl rfl rfl) rfl ?_) | refine G.gN rfl rfl rfl ?_))
  all_goals ((first | (refine G.gY rfl rfl ?_; refine G.op (bh rfl rfl (fun w _ => cE _ w)) rfl (fun _ _ => ?_)) | refine G.gN rfl rfl rfl ?_))
  all_goals ((first | refine G.v (bk rfl rfl) rfl ?_ | refine G.v (bm rfl rfl) rfl ?_))
  all_goals (refine G.v (ba rfl) rfl ?_)
  all_goals (((with_reducible refine G.gP rfl rfl (fun hg => ?_) (fun hg => ?_)) <;> (try exact Bool.noConfusion hg) <;> (first | (refine G.gY rfl rfl ?_; (refine G.v (be rfl) rfl ?_)) | refine G.gN rfl rfl rfl ?_)))
  all_goals ((first | (refine G.gY rfl rfl ?_; refine G.v (bf 0 rfl rfl rfl) rfl ?_) | refine G.gN rfl rfl rfl ?_))
  all_goals ((first | (refine G.gY rfl rfl ?_; refine G.op (bh rfl rfl (fun w _ => cE _ w)) rfl (fun _ _ => ?_)) | refine G.gN rfl rfl rfl ?_))
  all_goals ((first | refine G.v (bk rfl rfl) rfl ?_ | refine G.v (bm rfl rfl) rfl ?_))
  all_goals (refine G.v (ba rfl) rfl ?_)
  all_goals (((with_reducible refine G.gP rfl rfl (fun hg => ?_) (fun hg => ?_)) <;> (try exact Bool.noConfusion hg) <;> (first | (refine G.gY rfl rfl ?_; (refine G.v (be rfl) rfl ?_)) | refine G.gN rfl rfl rfl ?_)))
  all_goals ((first | (refine G.gY rfl rfl ?_; refine G.v (bf 0 rfl rfl rfl) rfl ?_) | refine G.gN rfl rfl rfl ?_))
  all_goals ((first | (refine G.gY rfl rfl ?_; refine G.op (bh rfl rfl (fun w _ => cE _ w)) rfl (fun _ _ => ?_)) | refine G.gN rfl rfl rfl ?_))
  all_goals ((first | refine G.v (bk rfl rfl) rfl ?_ | refine G.v (bm rfl rfl) rfl ?_))
  all_goals (refine G.v (ba rfl) rfl ?_)
  all_goals (((with_reducible refine G.gP rfl rfl (fun hg => ?_) (fun hg => ?_)) <;> (try exact Bool.noConfusion hg) <;> (first | (refine G.gY rfl rfl ?_; (refine G.v (be rfl) rfl ?_)) | refine G.gN rfl rfl rfl ?_)))
  all_goals ((first | (refine G.gY rfl rfl ?_; refine G.v (bf 0 rfl rfl rfl) rfl ?_) | refine G.gN rfl rfl rfl ?_))
  all_goals ((first | (refine G.gY rfl rfl ?_; refine G.op (bh rfl rfl (fun w _ => b5 _ _ _ w)) rfl (fun _ _ => ?_)) | refine G.gN rfl rfl rfl ?_))
  all_goals ((first | refine G.v (bk rfl rfl) rfl ?_ | refine G.v (bm rfl rfl) rfl ?_))
  all_goals (refine G.v (ba rfl) rfl ?_)
  all_goals (((with_reducible refine G.gP rfl rfl (fun hg => ?_) (fun hg => ?_)) <;> (try exact Bool.noConfusion hg) <;> (first | (refine G.gY rfl rfl ?_; (refine G.v (be rfl) rfl ?_)) | refine G.gN rfl rfl rfl ?_)))
  all_goals ((first | (refine G.gY rfl rfl ?_; refine G.v (bf 0 rfl rfl rfl) rfl ?_) | refine G.gN rfl rfl rfl ?_))
  all_goals ((first | (refine G.gY rfl rfl ?_; refine G.op (bh rfl rfl (fun w _ => b5 _ _ _ w)) rfl (fun _ _ => ?_)) | refine G.gN rfl rfl rfl ?_))
  all_goals ((first | refine G.v (bk rfl rfl) rfl ?_ | refine G.v (bm rfl rfl) rfl ?_))
  all_goals (refine G.v (ba rfl) rfl ?_)
  all_goals (((with_reducible refine G.gP rfl rfl (fun hg => ?_) (fun hg => ?_)) <;> (try exact Bool.noConfusion hg) <;> (first | (refine G.gY rfl rfl ?_; (refine G.v (be rfl) rfl ?_)) | refine G.gN rfl rfl rfl ?_)))
  all_goals ((first | (refine G.gY rfl rfl ?_; refine G.v (bf 0 rfl rfl rfl) rfl ?_) | refine G.gN rfl rfl rfl ?_))
  all_goals ((first | (refine G.gY rfl rfl ?_; refine G.op (bh rfl rfl (fun w _ => b5 _ _ _ w)) rfl (fun _ _ => ?_)) | refine G.gN rfl rfl rfl ?_))
  all_goals ((first | refine G.v (bk rfl rfl) rfl ?_ | refine G.v (bm rfl rfl) rfl ?_))
  all_goals (refine G.v (bb rfl) rfl ?_)
  all_goals
   refine G.I (G.E (G.ret ?_)); refine G.U rfl rfl ?_; simp_all [typeOkM]
theorem stypeOk_any (x : TypeM) (w : World) : FnV Tryz.prog 149 [x.val] w (.bool (typeOkM x)) := by
  refine FnV.of (n := 36) Tryz.func149 rfl rfl ?_; refine G.seq (G.region ?_); refine G.op (bE rfl rfl) rfl (fun bk1 _ => ?_); refine G.v (bb rfl) rfl (G.I (G.E (G.seq (G.region (G.v (be rfl) rfl (G.v (bf 0 rfl rfl rfl) rfl ?_)))))); refine G.op (bh rfl rfl (fun w _ => l2Id_any _ w)) rfl (fun _ _ => ?_); refine G.v (ba rfl) rfl ?_
  (with_reducible refine G.gP rfl rfl (fun hg => ?_) (fun hg => ?_)) <;> (try exact Bool.noConfusion hg) <;> (first | (refine G.gY rfl rfl ?_; (refine G.v (be rfl) rfl ?_)) | refine G.gN rfl rfl rfl ?_)
  all_goals ((first | (refine G.gY rfl rfl ?_; refine G.v (bf 0 rfl rfl rfl) rfl ?_) | refine G.gN rfl rfl rfl ?_))
  all_goals ((first | (refine G.gY rfl rfl ?_; refine G.op (bh rfl rfl (fun w _ => cF _ w)) rfl (fun _ _ => ?_)) | refine G.gN rfl rfl rfl ?_))
  all_goals ((first | refine G.v (bk rfl rfl) rfl ?_ | refine G.v (bm rfl rfl) rfl ?_))
  all_goals (refine G.v (ba rfl) rfl ?_)
  all_goals (((with_reducible refine G.gP rfl rfl (fun hg => ?_) (fun hg => ?_)) <;> (try exact Bool.noConfusion hg) <;> (first | (refine G.gY rfl rfl ?_; (refine G.v (be rfl) rfl ?_)) | refine G.gN rfl rfl rfl ?_)))
  all_goals ((first | (refine G.gY rfl rfl ?_; refine G.v (bf 0 rfl rfl rfl) rfl ?_) | refine G.gN rfl rfl rfl ?_))
  all_goals ((first | (refine G.gY rfl rfl ?_; refine G.op (bh rfl rfl (fun w _ => cF _ w)) rfl (fun _ _ => ?_)) | refine G.gN rfl rfl rfl ?_))
  all_goals ((first | refine G.v (bk rfl rfl) rfl ?_ | refine G.v (bm rfl rfl) rfl ?_))
  all_goals (refine G.v (ba rfl) rfl ?_)
  all_goals (((with_reducible refine G.gP rfl rfl (fun hg => ?_) (fun hg => ?_)) <;> (try exact Bool.noConfusion hg) <;> (first | (refine G.gY rfl rfl ?_; (refine G.v (be rfl) rfl ?_)) | refine G.gN rfl rfl rfl ?_)))
  all_goals ((first | (refine G.gY rfl rfl ?_; refine G.v (bf 0 rfl rfl rfl) rfl ?_) | refine G.gN rfl rfl rfl ?_))
  all_goals ((first | (refine G.gY rfl rfl ?_; refine G.op (bh rfl rfl (fun w _ => cF _ w)) rfl (fun _ _ => ?_)) | refine G.gN rfl rfl rfl ?_))
  all_goals ((first | refine G.v (bk rfl rfl) rfl ?_ | refine G.v (bm rfl rfl) rfl ?_))
  all_goals (refine G.v (ba rfl) rfl ?_)
  all_goals (((with_reducible refine G.gP rfl rfl (fun hg => ?_) (fun hg => ?_)) <;> (try exact Bool.noConfusion hg) <;> (first | (refine G.gY rfl rfl ?_; (refine G.v (be rfl) rfl ?_)) | refine G.gN rfl rfl rfl ?_)))
  all_goals ((first | (refine G.gY rfl rfl ?_; refine G.v (bf 0 rfl rfl rfl) rfl ?_) | refine G.gN rfl rfl rfl ?_))
  all_goals ((first | (refine G.gY rfl rfl ?_; refine G.op (bh rfl rfl (fun w _ => b7 _ _ _ w)) rfl (fun _ _ => ?_)) | refine G.gN rfl rfl rfl ?_))
  all_goals ((first | refine G.v (bk rfl rfl) rfl ?_ | refine G.v (bm rfl rfl) rfl ?_))
  all_goals (refine G.v (ba rfl) rfl ?_)
  all_goals (((with_reducible refine G.gP rfl rfl (fun hg => ?_) (fun hg => ?_)) <;> (try exact Bool.noConfusion hg) <;> (first | (refine G.gY rfl rfl ?_; (refine G.v (be rfl) rfl ?_)) | refine G.gN rfl rfl rfl ?_)))
  all_goals ((first | (refine G.gY rfl rfl ?_; refine G.v (bf 0 rfl rfl rfl) rfl ?_) | refine G.gN rfl rfl rfl ?_))
  all_goals ((first | (refine G.gY rfl rfl ?_; refine G.op (bh rfl rfl (fun w _ => b7 _ _ _ w)) rfl (fun _ _ => ?_)) | refine G.gN rfl rfl rfl ?_))
  all_goals ((first | refine G.v (bk rfl rfl) rfl ?_ | refine G.v (bm rfl rfl) rfl ?_))
  all_goals (refine G.v (ba rfl) rfl ?_)
  all_goals (((with_reducible refine G.gP rfl rfl (fun hg => ?_) (fun hg => ?_)) <;> (try exact Bool.noConfusion hg) <;> (first | (refine G.gY rfl rfl ?_; (refine G.v (be rfl) rfl ?_)) | refine G.gN rfl rfl rfl ?_)))
  all_goals ((first | (refine G.gY rfl rfl ?_; refine G.v (bf 0 rfl rfl rfl) rfl ?_) | refine G.gN rfl rfl rfl ?_))
  all_goals ((first | (refine G.gY rfl rfl ?_; refine G.op (bh rfl rfl (fun w _ => b7 _ _ _ w)) rfl (fun _ _ => ?_)) | refine G.gN rfl rfl rfl ?_))
  all_goals ((first | refine G.v (bk rfl rfl) rfl ?_ | refine G.v (bm rfl rfl) rfl ?_))
  all_goals (refine G.v (bb rfl) rfl ?_)
  all_goals
   refine G.I (G.E (G.ret ?_)); refine G.U rfl rfl ?_; simp_all [typeOkM]
theorem find_at {α : Type} {p : α → Bool} {l : List α} {k : Nat} {b : α} (h : (l.take k).any p = false) (hb : l[k]? = some b) (hp : p b = true) : l.find? p = some b := by
  have h1 : l = l.take k ++ b :: l.drop (k + 1) := by
    obtain ⟨hk, rfl⟩ := List.getElem?_eq_some_iff.1 hb
    rw [← List.drop_eq_getElem_cons hk, List.take_append_drop]
  rw [h1, List.find?_append]
  have h2 : (l.take k).find? p = none := by
    rw [List.find?_eq_none]; intro x hx; have := List.any_eq_false.1 h x hx; exact this
  rw [h2, Option.none_or, List.find?_cons_of_pos hp]
theorem find_no {α : Type} {p : α → Bool} {l : List α} {k : Nat} (h : (l.take k).any p = false) (hk : ¬ k < l.length) : l.find? p = none := by
  rw [List.take_of_length_le (by omega)] at h
  rw [List.find?_eq_none]; intro x hx; exact List.any_eq_false.1 h x hx
theorem idx_find {α : Type} (p : α → Bool) (l : List α) : (idxM p l = -1 ∧ l.find? p = none) ∨ ∃ (k : Nat) (b : α), idxM p l = k ∧ l[k]? = some b ∧ l.find? p = some b := by
  induction l with
  | nil => exact .inl ⟨rfl, rfl⟩
  | cons x r ih =>
    by_cases hx : p x = true
    · exact .inr ⟨0, x, by simp [idxM, hx], rfl, by simp [hx]⟩
    · have hx2 : p x = false := by simpa using hx
      rcases ih with ⟨h1, h2⟩ | ⟨k, b, h1, h2, h3⟩
      · exact .inl ⟨by simp [idxM, hx2, h1], by simp [hx2, h2]⟩
      · exact .inr ⟨k + 1, b, by simp only [idxM, hx2, h1]; simp; omega, by simpa using h2, by simp [hx2, h3]⟩
theorem any_not {α : Type} {p : α → Bool} {l : List α} : l.any (fun b => !p b) = !l.all p := by
  induction l with
  | nil => rfl
  | cons x r ih => simp only [List.any_cons, List.all_cons, ih, Bool.not_and]
/-- A type by its number. -/
def typeAt (r : ReqM) (id : Int) : TypeM × Bool := match typeByM r id with | some t => (t, true) | none => (typeZ, false)
theorem typeAt_no {r : ReqM} {id : Int} (h : r.types.find? (fun t => decide (t.id = id)) = none) : typeAt r id = (typeZ, false) := by rw [typeAt, typeByM, h]
theorem typeAt_yes {r : ReqM} {id : Int} {t : TypeM} (h : r.types.find? (fun t => decide (t.id = id)) = some t) : typeAt r id = (t, true) := by rw [typeAt, typeByM, h]
theorem typeById1_any (id : Int) (b : TypeM) {q : Nat} (w : World) (h : Rd w (.slice (some ⟨q, 0, none⟩) 1 1) 1 [[.int .i64 id]]) : FnV Tryz.prog 78 [.agg (TypeM.cells b).toArray, pB q 0] w (.bool (decide (b.id = id))) := by
  rw [cp q 1]
  refine FnV.of (n := 8) Tryz.func78 rfl rfl ?_; refine G.seq (G.region ?_); refine G.op (bE rfl rfl) rfl (fun bk2 _ => ?_); refine G.v (bb rfl) rfl (G.I (G.E (G.seq (G.region (G.v (be rfl) rfl (G.v (bf 0 rfl rfl rfl) rfl ?_)))))); refine G.v (bi rfl (by exact Rd.stays (by assumption)) rfl rfl) rfl ?_; refine G.v (bQ rfl rfl) rfl (G.v (bb rfl) rfl (G.I (G.E (G.ret ?_))))
  exact G.U rfl rfl rfl
theorem typeById_no {r : ReqM} {pv tv iv : Value} (id : Int) (w : World) (h2 : Rd w tv 7 (r.types.map TypeM.cells)) (hi : idxM (fun t => decide (t.id = id)) r.types = -1) : FnV Tryz.prog 22 [.agg (r.cells pv tv iv).toArray, .int .i64 id] w (.tuple #[typeZ.val, .bool false]) := by
  refine FnV.of (n := 19) Tryz.func22 rfl rfl ?_; refine G.seq (G.region ?_); refine G.op (bE rfl rfl) rfl (fun bk2 _ => ?_); refine G.op (bE rfl rfl) rfl (fun bk3 _ => ?_); refine G.op (bu) rfl (fun bk4 _ => ?_); refine G.v (bb rfl) rfl (G.I (G.E (G.seq (G.region (G.v (be rfl) rfl (G.v (bf 2 rfl rfl rfl) rfl (G.v (bY rfl rfl) rfl ?_))))))); refine G.op (bh rfl rfl (fun w hh => (indexType_any w (Rd.stays h2 _ hh) (fun w' k b hw hb => typeById1_any id b w' (Rd.stays (by exact Rd.bb 1 rfl rfl w hh) w' hw))).mono (congrArg (Value.int .i64) hi))) rfl (fun _ _ => ?_); refine G.v (bb rfl) rfl (G.I (G.E (G.seq (G.seq (G.region (G.v (ba rfl) rfl (G.v (br rfl rfl) rfl (G.I (G.E ?_))))))))); refine G.cond rfl (fun hc => ?_) (fun hc => ?_)
  replace hc := of_decide_eq_true hc
  refine G.seq (G.region ?_); refine G.v (bJ rfl .nil .nil) rfl ?_; refine G.bk (bL rfl rfl rfl rfl rfl rfl (.zero (.cons (.cons (.cons (.cons (.cons (.cons (.cons .nil))))))))) (fun _ _ => ?_); refine G.v (bb rfl) rfl (G.I (G.E (G.ret (G.O ?_))))
  exact G.bI rfl (.cons (by exact .cell 0 rfl rfl rfl) (.cons (.tmp rfl) .nil)) rfl
  exact Bool.noConfusion hc
theorem typeById_yes {r : ReqM} {pv tv iv : Value} (id : Int) (w : World) (h2 : Rd w tv 7 (r.types.map TypeM.cells)) {k : Nat} {b : TypeM} (hi : idxM (fun t => decide (t.id = id)) r.types = k) (hb : r.types[k]? = some b) : FnV Tryz.prog 22 [.agg (r.cells pv tv iv).toArray, .int .i64 id] w (.tuple #[b.val, .bool true]) := by
  have hle := h2.le_map
  have hlt := (List.getElem?_eq_some_iff.1 hb).1
  have he := bt hb TypeM.cells
  refine FnV.of (n := 19) Tryz.func22 rfl rfl ?_; refine G.seq (G.region ?_); refine G.op (bE rfl rfl) rfl (fun bk2 _ => ?_); refine G.op (bE rfl rfl) rfl (fun bk3 _ => ?_); refine G.op (bu) rfl (fun bk4 _ => ?_); refine G.v (bb rfl) rfl (G.I (G.E (G.seq (G.region (G.v (be rfl) rfl (G.v (bf 2 rfl rfl rfl) rfl (G.v (bY rfl rfl) rfl ?_))))))); refine G.op (bh rfl rfl (fun w hh => (indexType_any w (Rd.stays h2 _ hh) (fun w' k b hw hb => typeById1_any id b w' (Rd.stays (by exact Rd.bb 1 rfl rfl w hh) w' hw))).mono (congrArg (Value.int .i64) hi))) rfl (fun _ _ => ?_); refine G.v (bb rfl) rfl (G.I (G.E (G.seq (G.seq (G.region (G.v (ba rfl) rfl (G.v (br rfl rfl) rfl (G.I (G.E ?_))))))))); refine G.cond rfl (fun hc => ?_) (fun hc => ?_)
  exact Bool.noConfusion hc
  replace hc := of_decide_eq_false hc
  refine G.skip (G.E (G.seq (G.region (G.v (be rfl) rfl (G.v (bf 2 rfl rfl rfl) rfl (G.v (ba rfl) rfl ?_)))))); refine G.v (bg rfl rfl (by exact Rd.stays (by assumption)) rfl (by assumption)) rfl ?_; refine G.v (bN rfl (by exact Rd.stays (by assumption)) (by assumption) rfl) rfl ?_; refine G.bk (bL rfl rfl rfl rfl rfl rfl (.zero (.cons (.cons (.cons (.cons (.cons (.cons (.cons .nil))))))))) (fun _ _ => ?_); refine G.v (bb rfl) rfl (G.I (G.E (G.ret ?_)))
  exact G.bI rfl (.cons (by exact .cell 0 rfl rfl rfl) (.cons (.tmp rfl) .nil)) rfl
theorem typeById_any {r : ReqM} {pv tv iv : Value} (id : Int) (w : World) (h2 : Rd w tv 7 (r.types.map TypeM.cells)) : FnV Tryz.prog 22 [.agg (r.cells pv tv iv).toArray, .int .i64 id] w (.tuple #[(typeAt r id).1.val, .bool (typeAt r id).2]) := by
  rcases idx_find (fun t => decide (t.id = id)) r.types with ⟨h, e⟩ | ⟨k, b, h, hb, e⟩
  · rw [typeAt_no e]; exact typeById_no id w h2 h
  · rw [typeAt_yes e]; exact typeById_yes id w h2 h hb
theorem stypeById_any {r : ReqM} {pv tv iv : Value} (id : Int) (w : World) (h2 : Rd w tv 7 (r.types.map TypeM.cells)) : FnV Tryz.prog 81 [.agg (r.cells pv tv iv).toArray, .int .i64 id] w (.tuple #[(typeAt r id).1.val, .bool (typeAt r id).2]) := by
  have hle := h2.le_map
  refine FnV.of (n := 28) Tryz.func81 rfl rfl ?_; refine G.seq (G.region ?_); refine G.op (bE rfl rfl) rfl (fun bk2 _ => ?_); refine G.op (bu) rfl (fun bk4 _ => ?_); refine G.v (bb rfl) rfl (G.I (G.E (G.seq (G.seq (G.region (G.v (bb rfl) rfl (G.I (G.E (G.block ?_))))))))); refine G.Y (ι := Nat) (ks := [1, 2, 4]) (fun k => [(6, .int .i64 k)]) (fun _ => []) (fun k => k ≤ r.types.length ∧ (r.types.take k).any (fun t => decide (t.id = id)) = false) (fun k => r.types.length - k) 0 (.cons rfl (.cons rfl (.cons rfl (.nil)))) rfl ?_ ?_ ?_
  exact ⟨Nat.zero_le _, rfl⟩
  exact ⟨rfl, trivial⟩
  rintro k ⟨hk, ht⟩
  by_cases hlt : k < r.types.length
  case' pos => (obtain ⟨b, hb⟩ := bn hlt; have he := bt hb TypeM.cells)
  all_goals
   refine G.seq (G.seq (G.region (G.v (ba rfl) rfl (G.v (be rfl) rfl (G.v (bf 1 rfl rfl rfl) rfl ?_))))); refine G.v (bz rfl (by exact Rd.stays (by assumption))) rfl ?_; refine G.v (br rfl rfl) rfl (G.I (G.E ?_)); refine G.cond rfl (fun hc => ?_) (fun hc => ?_)
   · all_goals
      replace hc := of_decide_eq_true hc
      simp only [List.length_map] at hc
      try (exfalso; omega)
      all_goals
       refine G.skip (G.E (G.seq (G.block (G.seq (G.region (G.v (be rfl) rfl (G.v (bf 1 rfl rfl rfl) rfl (G.v (ba rfl) rfl ?_)))))))); refine G.v (bg rfl rfl (by exact Rd.stays (by assumption)) rfl (by assumption)) rfl ?_; refine G.v (bo rfl) rfl ?_; refine G.v (bi rfl (by exact Rd.stays (by assumption)) (by assumption) rfl) rfl ?_; refine G.v (ba rfl) rfl (G.v (bQ rfl rfl) rfl (G.I (G.E ?_))); refine G.cond rfl (fun hc => ?_) (fun hc => ?_)
       · all_goals
          replace hc := of_decide_eq_true hc
          all_goals
           refine G.seq (G.region (G.v (be rfl) rfl (G.v (bf 1 rfl rfl rfl) rfl (G.v (ba rfl) rfl ?_)))); refine G.v (bg rfl rfl (by exact Rd.stays (by assumption)) rfl (by assumption)) rfl ?_; refine G.v (bN rfl (by exact Rd.stays (by assumption)) (by assumption) rfl) rfl ?_; refine G.bk (bL rfl rfl rfl rfl rfl rfl (.zero (.cons (.cons (.cons (.cons (.cons (.cons (.cons .nil))))))))) (fun _ _ => ?_); refine G.v (bb rfl) rfl (G.I (G.E (G.ret (G.bq (G.O (G.O (G.bq (G.O ?_))))))))
           rw [typeAt_yes (find_at ht hb (by simpa using hc))]; exact G.bI rfl (.cons (by exact .cell 0 rfl rfl rfl) (.cons (.tmp rfl) .nil)) rfl
       · all_goals
          replace hc := of_decide_eq_false hc
          all_goals
           refine G.skip (G.bc (G.E (G.region (G.v (ba rfl) rfl ?_)))); refine G.v (bp rfl rfl (by omega)) rfl ?_; refine G.v (bb rfl) rfl (G.I ?_); refine G.V (k + 1) 0 rfl (.cons rfl (.cons rfl (.cons rfl (.nil)))) ?_ ?_ ?_
           exact ⟨rfl, trivial⟩
           exact ⟨hlt, cc ht hb (by simpa using hc)⟩
           omega
   · all_goals
      replace hc := of_decide_eq_false hc
      simp only [List.length_map] at hc
      try (exfalso; omega)
      all_goals
       refine G.exit (G.L (G.L (G.bn (G.E (G.seq (G.region ?_)))))); refine G.v (bJ rfl .nil .nil) rfl ?_; refine G.bk (bL rfl rfl rfl rfl rfl rfl (.zero (.cons (.cons (.cons (.cons (.cons (.cons (.cons .nil))))))))) (fun _ _ => ?_); refine G.v (bb rfl) rfl (G.I (G.E (G.ret ?_)))
       rw [typeAt_no (find_no ht hlt)]; exact G.bI rfl (.cons (by exact .cell 0 rfl rfl rfl) (.cons (.tmp rfl) .nil)) rfl
theorem masterOf_any {r : ReqM} {pv tv iv : Value} (w : World) (h2 : Rd w tv 7 (r.types.map TypeM.cells)) : FnV Tryz.prog 30 [.agg (r.cells pv tv iv).toArray] w (.tuple #[(typeAt r r.master).1.val, .bool (typeAt r r.master).2]) := by
  refine FnV.of (n := 10) Tryz.func30 rfl rfl ?_; refine G.seq (G.region ?_); refine G.op (bE rfl rfl) rfl (fun bk1 _ => ?_); refine G.op (bu) rfl (fun bk2 _ => ?_); refine G.v (bb rfl) rfl (G.I (G.E (G.seq (G.region (G.v (bj 1 rfl rfl rfl) rfl (G.v (be rfl) rfl (G.v (bf 1 rfl rfl rfl) rfl ?_))))))); refine G.op (bh rfl rfl (fun w hh => typeById_any (r := r) r.master w (Rd.stays h2 _ hh))) rfl (fun _ _ => ?_); refine G.v (bC rfl rfl) rfl (G.v (bC rfl rfl) rfl ?_); refine G.bk (bL rfl rfl rfl rfl rfl rfl (.zero (.cons (.cons (.cons (.cons (.cons (.cons (.cons .nil))))))))) (fun _ _ => ?_); refine G.v (bb rfl) rfl (G.I (G.E (G.ret ?_)))
  exact G.bI rfl (.cons (by exact .cell 0 rfl rfl rfl) (.cons (.tmp rfl) .nil)) rfl
theorem cX {r : ReqM} {pv tv iv : Value} (w : World) (h2 : Rd w tv 7 (r.types.map TypeM.cells)) : FnV Tryz.prog 86 [.agg (r.cells pv tv iv).toArray] w (.tuple #[(typeAt r r.master).1.val, .bool (typeAt r r.master).2]) := by
  have hle := h2.le_map
  refine FnV.of (n := 27) Tryz.func86 rfl rfl ?_; refine G.seq (G.region ?_); refine G.op (bE rfl rfl) rfl (fun bk1 _ => ?_); refine G.op (bu) rfl (fun bk2 _ => ?_); refine G.v (bb rfl) rfl (G.I (G.E (G.seq (G.seq (G.region (G.v (bb rfl) rfl (G.I (G.E (G.block ?_))))))))); refine G.Y (ι := Nat) (ks := [1, 2]) (fun k => [(4, .int .i64 k)]) (fun _ => []) (fun k => k ≤ r.types.length ∧ (r.types.take k).any (fun t => decide (t.id = r.master)) = false) (fun k => r.types.length - k) 0 (.cons rfl (.cons rfl (.nil))) rfl ?_ ?_ ?_
  exact ⟨Nat.zero_le _, rfl⟩
  exact ⟨rfl, trivial⟩
  rintro k ⟨hk, ht⟩
  by_cases hlt : k < r.types.length
  case' pos => (obtain ⟨b, hb⟩ := bn hlt; have he := bt hb TypeM.cells)
  all_goals
   refine G.seq (G.seq (G.region (G.v (ba rfl) rfl (G.v (be rfl) rfl (G.v (bf 1 rfl rfl rfl) rfl ?_))))); refine G.v (bz rfl (by exact Rd.stays (by assumption))) rfl ?_; refine G.v (br rfl rfl) rfl (G.I (G.E ?_)); refine G.cond rfl (fun hc => ?_) (fun hc => ?_)
   · all_goals
      replace hc := of_decide_eq_true hc
      simp only [List.length_map] at hc
      try (exfalso; omega)
      all_goals
       refine G.skip (G.E (G.seq (G.block (G.seq ?_)))); refine G.ba [] ?_; refine GE.q 0 rfl (by as_aux_lemma => kernel_rfl) rfl (bc (be rfl)) rfl ?_; refine GE.q 1 rfl (by as_aux_lemma => kernel_rfl) rfl (bc (bf 1 rfl rfl rfl)) rfl ?_; refine GE.q 2 rfl (by as_aux_lemma => kernel_rfl) rfl (bc (ba rfl)) rfl ?_; refine GE.q 3 rfl (by as_aux_lemma => kernel_rfl) rfl (bc (bg rfl rfl (by exact Rd.stays (by assumption)) rfl (by assumption))) rfl ?_; refine GE.q 4 rfl (by as_aux_lemma => kernel_rfl) rfl (bc (bo rfl)) rfl ?_; refine GE.q 5 rfl (by as_aux_lemma => kernel_rfl) rfl (bc (bi rfl (by exact Rd.stays (by assumption)) (by assumption) rfl)) rfl ?_; refine GE.V 6 (by as_aux_lemma => kernel_rfl) rfl rfl (bd (be rfl)) rfl (fun _ _ h => by exact h) (fun _ _ => ?_); refine GE.V 7 (by as_aux_lemma => kernel_rfl) rfl rfl (bd (bf 1 rfl rfl rfl)) rfl (fun _ _ h => by exact h) (fun _ _ => ?_); refine GE.V 8 (by as_aux_lemma => kernel_rfl) rfl rfl (bd (bQ rfl rfl)) rfl (fun _ _ h => by exact h) (fun _ _ => ?_); refine GE.E (by as_aux_lemma => kernel_rfl) ?_; refine G.E ?_; refine G.cond rfl (fun hc => ?_) (fun hc => ?_)
       · all_goals
          replace hc := of_decide_eq_true hc
          all_goals
           refine G.seq (G.region (G.v (be rfl) rfl (G.v (bf 1 rfl rfl rfl) rfl (G.v (ba rfl) rfl ?_)))); refine G.v (bg rfl rfl (by exact Rd.stays (by assumption)) rfl (by assumption)) rfl ?_; refine G.v (bN rfl (by exact Rd.stays (by assumption)) (by assumption) rfl) rfl ?_; refine G.bk (bL rfl rfl rfl rfl rfl rfl (.zero (.cons (.cons (.cons (.cons (.cons (.cons (.cons .nil))))))))) (fun _ _ => ?_); refine G.v (bb rfl) rfl (G.I (G.E (G.ret (G.bq (G.O (G.O (G.bq (G.O ?_))))))))
           rw [typeAt_yes (find_at ht hb (by simpa using hc))]; exact G.bI rfl (.cons (by exact .cell 0 rfl rfl rfl) (.cons (.tmp rfl) .nil)) rfl
       · all_goals
          replace hc := of_decide_eq_false hc
          all_goals
           refine G.skip (G.bc (G.E (G.region (G.v (ba rfl) rfl ?_)))); refine G.v (bp rfl rfl (by omega)) rfl ?_; refine G.v (bb rfl) rfl (G.I ?_); refine G.V (k + 1) 0 rfl (.cons rfl (.cons rfl (.nil))) ?_ ?_ ?_
           exact ⟨rfl, trivial⟩
           exact ⟨hlt, cc ht hb (by simpa using hc)⟩
           omega
   · all_goals
      replace hc := of_decide_eq_false hc
      simp only [List.length_map] at hc
      try (exfalso; omega)
      all_goals
       refine G.exit (G.L (G.L (G.bn (G.E (G.seq (G.region ?_)))))); refine G.v (bJ rfl .nil .nil) rfl ?_; refine G.bk (bL rfl rfl rfl rfl rfl rfl (.zero (.cons (.cons (.cons (.cons (.cons (.cons (.cons .nil))))))))) (fun _ _ => ?_); refine G.v (bb rfl) rfl (G.I (G.E (G.ret ?_)))
       rw [typeAt_no (find_no ht hlt)]; exact G.bI rfl (.cons (by exact .cell 0 rfl rfl rfl) (.cons (.tmp rfl) .nil)) rfl
theorem cnt_take {l : List ItemM} {k : Nat} {b : ItemM} (h : l[k]? = some b) : cntSum (l.take (k + 1)) = cntSum (l.take k) + b.cnt := by
  simp only [cntSum, List.take_add_one, h, Option.toList_some, List.map_append, List.sum_append, List.map_cons, List.map_nil, List.sum_cons, List.sum_nil, Int.add_zero]
theorem dZ {b : ItemM} (h : itemOkM b = true) : 1 ≤ b.cnt ∧ b.cnt ≤ 6 := by
  simp only [itemOkM, Bool.and_eq_true] at h
  have := h.2
  simp only [inB, Bool.and_eq_true, decide_eq_true_eq] at this
  exact this
theorem cnt_in : ∀ {l : List ItemM}, l.all itemOkM = true → (l.length : Int) ≤ cntSum l ∧ cntSum l ≤ 6 * l.length
  | [], _ => by simp [cntSum]
  | b :: r, h => by
    rw [List.all_cons, Bool.and_eq_true] at h
    have h1 := cnt_in h.2
    have h2 := dZ h.1
    simp only [cntSum, List.map_cons, List.sum_cons, List.length_cons] at *
    omega
theorem boundsOk1_any (b : PairM) (w : World) : FnV Tryz.prog 222 [.agg (PairM.cells b).toArray] w (.bool (!pairOkM b)) := by
  refine FnV.of (n := 13) Tryz.func222 rfl rfl ?_; refine G.seq (G.region ?_); refine G.op (bE rfl rfl) rfl (fun bk1 _ => ?_); refine G.v (bb rfl) rfl (G.I (G.E (G.seq (G.region (G.v (be rfl) rfl (G.v (bf 0 rfl rfl rfl) rfl ?_)))))); refine G.op (bh rfl rfl (fun w _ => b5 _ _ _ w)) rfl (fun _ _ => ?_); refine G.v (bF rfl) rfl (G.v (ba rfl) rfl ?_)
  (with_reducible refine G.gP rfl rfl (fun hg => ?_) (fun hg => ?_)) <;> (try exact Bool.noConfusion hg) <;> (first | (refine G.gY rfl rfl ?_; (refine G.v (be rfl) rfl ?_)) | refine G.gN rfl rfl rfl ?_)
  all_goals ((first | (refine G.gY rfl rfl ?_; refine G.v (bf 0 rfl rfl rfl) rfl ?_) | refine G.gN rfl rfl rfl ?_))
  all_goals ((first | (refine G.gY rfl rfl ?_; refine G.op (bh rfl rfl (fun w _ => b5 _ _ _ w)) rfl (fun _ _ => ?_)) | refine G.gN rfl rfl rfl ?_))
  all_goals ((first | (refine G.gY rfl rfl ?_; refine G.v (bF rfl) rfl ?_) | refine G.gN rfl rfl rfl ?_))
  all_goals ((first | refine G.v (bk rfl rfl) rfl ?_ | refine G.v (bm rfl rfl) rfl ?_))
  all_goals (refine G.v (bb rfl) rfl ?_)
  all_goals
   refine G.I (G.E (G.ret ?_)); refine G.U rfl rfl ?_; simp_all [pairOkM]
theorem boundsOk2_any (b : TypeM) (w : World) : FnV Tryz.prog 223 [.agg (TypeM.cells b).toArray] w (.bool (!typeOkM b)) := by
  refine FnV.of (n := 6) Tryz.func223 rfl rfl ?_; refine G.seq (G.region ?_); refine G.op (bE rfl rfl) rfl (fun bk1 _ => ?_); refine G.v (bb rfl) rfl (G.I (G.E (G.seq (G.region (G.v (bj 0 rfl rfl rfl) rfl ?_))))); refine G.op (bh rfl rfl (fun w hh => typeOk_any b w)) rfl (fun _ _ => ?_); refine G.v (bF rfl) rfl (G.v (bb rfl) rfl (G.I (G.E (G.ret ?_))))
  exact G.U rfl rfl rfl
theorem boundsOk_any {r : ReqM} {pv tv iv : Value} (w : World) (h : Rd w pv 2 (r.pairs.map PairM.cells)) (h2 : Rd w tv 7 (r.types.map TypeM.cells)) (h3 : Rd w iv 7 (r.items.map ItemM.cells)) :
    FnV Tryz.prog 170 [.agg (r.cells pv tv iv).toArray] w (.bool (boundsOkM r)) := by
  have hle := h.le_map
  have hle2 := h2.le_map
  have hle3 := h3.le_map
  have hln : (r.pairs.map PairM.cells).length = r.pairs.length := by simp
  have hln2 : (r.types.map TypeM.cells).length = r.types.length := by simp
  have hln3 : (r.items.map ItemM.cells).length = r.items.length := by simp
  refine FnV.of (n := 70) Tryz.func170 rfl rfl ?_; refine G.seq (G.region ?_); refine G.op (bE rfl rfl) rfl (fun bk1 _ => ?_); refine G.v (bb rfl) rfl (G.I (G.E (G.seq (G.seq (G.region (G.v (be rfl) rfl (G.v (bf 0 rfl rfl rfl) rfl ?_))))))); refine G.op (bh rfl rfl (fun w _ => b5 _ _ _ w)) rfl (fun _ _ => ?_); refine G.v (bF rfl) rfl (G.v (ba rfl) rfl ?_)
  (with_reducible refine G.gP rfl rfl (fun hg => ?_) (fun hg => ?_)) <;> (try exact Bool.noConfusion hg) <;> (first | (refine G.gY rfl rfl ?_; (refine G.v (be rfl) rfl ?_)) | refine G.gN rfl rfl rfl ?_)
  all_goals ((first | (refine G.gY rfl rfl ?_; (refine G.v (dg 0 rfl rfl (.skip (.one (.one (.one (.one .nil)))))) rfl ?_)) | refine G.gN rfl rfl rfl ?_))
  all_goals ((first | (refine G.gY rfl rfl ?_; refine G.op (bh rfl rfl (fun w hh => palletOk_any r.pal w)) rfl (fun _ _ => ?_)) | refine G.gN rfl rfl rfl ?_))
  all_goals ((first | (refine G.gY rfl rfl ?_; refine G.v (bF rfl) rfl ?_) | refine G.gN rfl rfl rfl ?_))
  all_goals ((first | refine G.v (bk rfl rfl) rfl ?_ | refine G.v (bm rfl rfl) rfl ?_))
  all_goals (refine G.v (ba rfl) rfl ?_)
  all_goals (((with_reducible refine G.gP rfl rfl (fun hg => ?_) (fun hg => ?_)) <;> (try exact Bool.noConfusion hg) <;> (first | (refine G.gY rfl rfl ?_; (refine G.v (be rfl) rfl ?_)) | refine G.gN rfl rfl rfl ?_)))
  all_goals ((first | (refine G.gY rfl rfl ?_; (refine G.v (bf 0 rfl rfl rfl) rfl ?_)) | refine G.gN rfl rfl rfl ?_))
  all_goals ((first | (refine G.gY rfl rfl ?_; refine G.op (bh rfl rfl (fun w _ => b5 _ _ _ w)) rfl (fun _ _ => ?_)) | refine G.gN rfl rfl rfl ?_))
  all_goals ((first | (refine G.gY rfl rfl ?_; refine G.v (bF rfl) rfl ?_) | refine G.gN rfl rfl rfl ?_))
  all_goals ((first | refine G.v (bk rfl rfl) rfl ?_ | refine G.v (bm rfl rfl) rfl ?_))
  all_goals (refine G.v (ba rfl) rfl ?_)
  all_goals (((with_reducible refine G.gP rfl rfl (fun hg => ?_) (fun hg => ?_)) <;> (try exact Bool.noConfusion hg) <;> (first | (refine G.gY rfl rfl ?_; (refine G.v (be rfl) rfl ?_)) | refine G.gN rfl rfl rfl ?_)))
  all_goals ((first | (refine G.gY rfl rfl ?_; (refine G.v (bf 0 rfl rfl rfl) rfl ?_)) | refine G.gN rfl rfl rfl ?_))
  all_goals ((first | (refine G.gY rfl rfl ?_; refine G.v (bz rfl (by exact Rd.stays (by assumption))) rfl ?_) | refine G.gN rfl rfl rfl ?_))
  all_goals ((first | (refine G.gY rfl rfl ?_; refine G.v (b6 rfl rfl) rfl ?_) | refine G.gN rfl rfl rfl ?_))
  all_goals ((first | refine G.v (bk rfl rfl) rfl ?_ | refine G.v (bm rfl rfl) rfl ?_))
  all_goals
   refine G.I (G.E ?_); refine G.cond rfl (fun hc => ?_) (fun hc => ?_)
   · all_goals
      try replace hc := of_decide_eq_true hc
      simp only [List.length_map] at hc
      all_goals
       refine G.seq (G.region (G.v (bb rfl) rfl (G.I (G.E (G.ret (G.O ?_))))))
       first | (have hcc : ¬ (r.pairs.length : Int) ≤ 16 := (by omega); refine G.U rfl rfl (congrArg Value.bool ?_); simp only [boundsOkM]; rw [decide_eq_false hcc]; simp; done) | (refine G.U rfl rfl (congrArg Value.bool ?_); simp only [Bool.not_eq_true', Bool.not_eq_false', List.length_map] at *; clear h h2 h3; simp only [boundsOkM, *, Bool.and_false, Bool.false_and]; done)
   · try exact Bool.noConfusion hc
     all_goals
      replace hc := of_decide_eq_false hc
      simp only [List.length_map] at hc
      all_goals
       refine G.skip (G.E (G.seq (G.seq (G.region (G.v (be rfl) rfl (G.v (bf 0 rfl rfl rfl) rfl ?_)))))); refine G.op (bh rfl rfl (fun w hh => (containsPair_any w (Rd.stays h _ hh) (fun w' k b hw hb => boundsOk1_any b w')).mono (congrArg Value.bool any_not))) rfl (fun _ _ => ?_); refine G.I (G.E ?_); refine G.cond rfl (fun hc => ?_) (fun hc => ?_)
       · all_goals
          all_goals
           refine G.seq (G.region (G.v (bb rfl) rfl (G.I (G.E (G.ret (G.O ?_)))))); refine G.U rfl rfl (congrArg Value.bool ?_); simp only [Bool.not_eq_true', Bool.not_eq_false', List.length_map] at *; clear h h2 h3; simp only [boundsOkM, *, Bool.and_false, Bool.false_and]; done
       · all_goals
          all_goals
           refine G.skip (G.E (G.seq (G.seq (G.region (G.v (be rfl) rfl (G.v (bf 0 rfl rfl rfl) rfl ?_)))))); refine G.v (bz rfl (by exact Rd.stays (by assumption))) rfl ?_; refine G.op (bh rfl rfl (fun w _ => b5 _ _ _ w)) rfl (fun _ _ => ?_); refine G.v (bF rfl) rfl (G.v (ba rfl) rfl ?_)
           all_goals (((with_reducible refine G.gP rfl rfl (fun hg => ?_) (fun hg => ?_)) <;> (try exact Bool.noConfusion hg) <;> (first | (refine G.gY rfl rfl ?_; (refine G.v (be rfl) rfl ?_)) | refine G.gN rfl rfl rfl ?_)))
           all_goals ((first | (refine G.gY rfl rfl ?_; (refine G.v (bf 0 rfl rfl rfl) rfl ?_)) | refine G.gN rfl rfl rfl ?_))
           all_goals ((first | (refine G.gY rfl rfl ?_; refine G.op (bh rfl rfl (fun w hh => (containsType_any w (Rd.stays h2 _ hh) (fun w' k b hw hb => boundsOk2_any b w')).mono (congrArg Value.bool any_not))) rfl (fun _ _ => ?_)) | refine G.gN rfl rfl rfl ?_))
           all_goals ((first | refine G.v (bk rfl rfl) rfl ?_ | refine G.v (bm rfl rfl) rfl ?_))
           all_goals (refine G.v (ba rfl) rfl ?_)
           all_goals (((with_reducible refine G.gP rfl rfl (fun hg => ?_) (fun hg => ?_)) <;> (try exact Bool.noConfusion hg) <;> (first | (refine G.gY rfl rfl ?_; (refine G.v (be rfl) rfl ?_)) | refine G.gN rfl rfl rfl ?_)))
           all_goals ((first | (refine G.gY rfl rfl ?_; (refine G.v (bf 0 rfl rfl rfl) rfl ?_)) | refine G.gN rfl rfl rfl ?_))
           all_goals ((first | (refine G.gY rfl rfl ?_; refine G.op (bh rfl rfl (fun w _ => b5 _ _ _ w)) rfl (fun _ _ => ?_)) | refine G.gN rfl rfl rfl ?_))
           all_goals ((first | (refine G.gY rfl rfl ?_; refine G.v (bF rfl) rfl ?_) | refine G.gN rfl rfl rfl ?_))
           all_goals ((first | refine G.v (bk rfl rfl) rfl ?_ | refine G.v (bm rfl rfl) rfl ?_))
           all_goals (refine G.v (ba rfl) rfl ?_)
           all_goals (((with_reducible refine G.gP rfl rfl (fun hg => ?_) (fun hg => ?_)) <;> (try exact Bool.noConfusion hg) <;> (first | (refine G.gY rfl rfl ?_; (refine G.v (be rfl) rfl ?_)) | refine G.gN rfl rfl rfl ?_)))
           all_goals ((first | (refine G.gY rfl rfl ?_; (refine G.v (bf 0 rfl rfl rfl) rfl ?_)) | refine G.gN rfl rfl rfl ?_))
           all_goals ((first | (refine G.gY rfl rfl ?_; refine G.v (bz rfl (by exact Rd.stays (by assumption))) rfl ?_) | refine G.gN rfl rfl rfl ?_))
           all_goals ((first | (refine G.gY rfl rfl ?_; refine G.v (b6 rfl rfl) rfl ?_) | refine G.gN rfl rfl rfl ?_))
           all_goals ((first | refine G.v (bk rfl rfl) rfl ?_ | refine G.v (bm rfl rfl) rfl ?_))
           all_goals
            refine G.I (G.E ?_); refine G.cond rfl (fun hc => ?_) (fun hc => ?_)
            · all_goals
               try replace hc := of_decide_eq_true hc
               simp only [List.length_map] at hc
               all_goals
                refine G.seq (G.region (G.v (bb rfl) rfl (G.I (G.E (G.ret (G.O ?_))))))
                first | (have hcc : ¬ (r.items.length : Int) ≤ 8 := (by omega); refine G.U rfl rfl (congrArg Value.bool ?_); simp only [boundsOkM]; rw [decide_eq_false hcc]; simp; done) | (refine G.U rfl rfl (congrArg Value.bool ?_); simp only [Bool.not_eq_true', Bool.not_eq_false', List.length_map] at *; clear h h2 h3; simp only [boundsOkM, *, Bool.and_false, Bool.false_and]; done)
            · try exact Bool.noConfusion hc
              all_goals
               replace hc := of_decide_eq_false hc
               simp only [List.length_map] at hc
               all_goals
                refine G.skip (G.E (G.seq (G.region (G.v (bb rfl) rfl (G.I (G.E (G.seq (G.seq (G.region (G.v (be rfl) rfl (G.v (bf 0 rfl rfl rfl) rfl ?_))))))))))); refine G.v (bz rfl (by exact Rd.stays (by assumption))) rfl ?_; refine G.v (ba rfl) rfl (G.I (G.E (G.block ?_)))
                have hi8 : r.items.length ≤ 8 := by (clear h h2 h3; simp_all; omega)
                refine G.Y (ι := Nat) (ks := [54, 55]) (fun k => [(3, .int .i64 (cntSum (r.items.take k))), (56, .int .i64 k)]) (fun _ => []) (fun k => k ≤ r.items.length ∧ (r.items.take k).all itemOkM = true) (fun k => r.items.length - k) 0 (.cons rfl (.cons rfl (.nil))) rfl ?_ ?_ ?_
                exact ⟨Nat.zero_le _, rfl⟩
                exact ⟨rfl, rfl, trivial⟩
                rintro k ⟨hk, ht⟩
                have hcn := cnt_in ht
                rw [List.length_take, Nat.min_eq_left hk] at hcn
                by_cases hlt : k < r.items.length
                case' pos => (obtain ⟨b, hb⟩ := bn hlt; have he := bt hb ItemM.cells; have hct := cnt_take hb)
                all_goals
                 refine G.seq (G.region (G.v (br rfl rfl) rfl (G.I (G.E (G.seq ?_))))); refine G.cond rfl (fun hc => ?_) (fun hc => ?_)
                 · all_goals
                    replace hc := of_decide_eq_true hc
                    simp only [List.length_map] at hc
                    try (exfalso; omega)
                    all_goals
                     refine G.skip (G.E (G.seq (G.block (G.seq (G.region ?_))))); refine G.v (bg rfl rfl (by exact Rd.stays (by assumption)) rfl (by assumption)) rfl ?_; refine G.v (bN rfl (by exact Rd.stays (by assumption)) (by assumption) rfl) rfl ?_; refine G.op (bu) rfl (fun bk5 _ => ?_); refine G.bk (bL rfl rfl rfl rfl rfl rfl (.zero (.cons (.cons (.cons (.cons (.cons (.cons (.cons .nil))))))))) (fun _ _ => ?_); refine G.I (G.E (G.seq (G.seq (G.region (G.v (bj 0 rfl rfl rfl) rfl ?_))))); refine G.op (bh rfl rfl (fun w hh => itemOk_any b w)) rfl (fun _ _ => ?_); refine G.v (bF rfl) rfl (G.I (G.E ?_)); refine G.cond rfl (fun hc => ?_) (fun hc => ?_)
                     · all_goals
                        all_goals
                         refine G.seq (G.region (G.v (bb rfl) rfl (G.I (G.E (G.ret (G.O (G.bq (G.O (G.O (G.bq (G.O ?_)))))))))))
                         have hno := all_no hb (by simpa using hc); refine G.U rfl rfl (congrArg Value.bool ?_); rw [boundsOkM, hno]; simp
                     · all_goals
                        all_goals
                         have hcb := dZ (b := b) (by simpa using hc)
                         all_goals
                          refine G.skip (G.E (G.region (G.v (ba rfl) rfl (G.v (be rfl) rfl (G.v (bf 0 rfl rfl rfl) rfl ?_))))); refine G.v (bD rfl rfl (by omega) (by omega)) rfl ?_; refine G.v (bb rfl) rfl (G.I (G.bc (G.E (G.region ?_)))); refine G.v (bp rfl rfl (by omega)) rfl ?_; refine G.v (ba rfl) rfl (G.I ?_); refine G.V (k + 1) 1 rfl (.cons rfl (.cons rfl (.nil))) ?_ ?_ ?_
                          exact ⟨congrArg (fun z => some (Value.int .i64 z)) hct.symm, rfl, trivial⟩
                          exact ⟨hlt, dG ht hb (by simpa using hc)⟩
                          omega
                 · all_goals
                    replace hc := of_decide_eq_false hc
                    simp only [List.length_map] at hc
                    try (exfalso; omega)
                    all_goals
                     refine G.exit (G.L (G.L (G.bn (G.E (G.seq (G.region (G.v (ba rfl) rfl (G.v (ci rfl rfl) rfl (G.v (bb rfl) rfl (G.I (G.E ?_))))))))))); refine G.ret ?_
                     have hal := d5 ht hlt; rw [bZ hlt]; refine G.U rfl rfl (congrArg Value.bool ?_); simp_all [boundsOkM]
theorem sboundsOk_any {r : ReqM} {pv tv iv : Value} (w : World) (h : Rd w pv 2 (r.pairs.map PairM.cells)) (h2 : Rd w tv 7 (r.types.map TypeM.cells)) (h3 : Rd w iv 7 (r.items.map ItemM.cells)) :
    FnV Tryz.prog 83 [.agg (r.cells pv tv iv).toArray] w (.bool (boundsOkM r)) := by
  have hle := h.le_map
  have hle2 := h2.le_map
  have hle3 := h3.le_map
  have hln : (r.pairs.map PairM.cells).length = r.pairs.length := by simp
  have hln2 : (r.types.map TypeM.cells).length = r.types.length := by simp
  have hln3 : (r.items.map ItemM.cells).length = r.items.length := by simp
  refine FnV.of (n := 111) Tryz.func83 rfl rfl ?_; refine G.seq (G.region ?_); refine G.op (bE rfl rfl) rfl (fun bk1 _ => ?_); refine G.v (bb rfl) rfl (G.I (G.E (G.seq (G.seq (G.region (G.v (be rfl) rfl (G.v (bf 0 rfl rfl rfl) rfl ?_))))))); refine G.op (bh rfl rfl (fun w _ => b7 _ _ _ w)) rfl (fun _ _ => ?_); refine G.v (bF rfl) rfl (G.v (ba rfl) rfl ?_)
  (with_reducible refine G.gP rfl rfl (fun hg => ?_) (fun hg => ?_)) <;> (try exact Bool.noConfusion hg) <;> (first | (refine G.gY rfl rfl ?_; (refine G.v (be rfl) rfl ?_)) | refine G.gN rfl rfl rfl ?_)
  all_goals ((first | (refine G.gY rfl rfl ?_; (refine G.v (dg 0 rfl rfl (.skip (.one (.one (.one (.one .nil)))))) rfl ?_)) | refine G.gN rfl rfl rfl ?_))
  all_goals ((first | (refine G.gY rfl rfl ?_; refine G.op (bh rfl rfl (fun w hh => spalletOk_any r.pal w)) rfl (fun _ _ => ?_)) | refine G.gN rfl rfl rfl ?_))
  all_goals ((first | (refine G.gY rfl rfl ?_; refine G.v (bF rfl) rfl ?_) | refine G.gN rfl rfl rfl ?_))
  all_goals ((first | refine G.v (bk rfl rfl) rfl ?_ | refine G.v (bm rfl rfl) rfl ?_))
  all_goals (refine G.v (ba rfl) rfl ?_)
  all_goals (((with_reducible refine G.gP rfl rfl (fun hg => ?_) (fun hg => ?_)) <;> (try exact Bool.noConfusion hg) <;> (first | (refine G.gY rfl rfl ?_; (refine G.v (be rfl) rfl ?_)) | refine G.gN rfl rfl rfl ?_)))
  all_goals ((first | (refine G.gY rfl rfl ?_; (refine G.v (bf 0 rfl rfl rfl) rfl ?_)) | refine G.gN rfl rfl rfl ?_))
  all_goals ((first | (refine G.gY rfl rfl ?_; refine G.op (bh rfl rfl (fun w _ => b7 _ _ _ w)) rfl (fun _ _ => ?_)) | refine G.gN rfl rfl rfl ?_))
  all_goals ((first | (refine G.gY rfl rfl ?_; refine G.v (bF rfl) rfl ?_) | refine G.gN rfl rfl rfl ?_))
  all_goals ((first | refine G.v (bk rfl rfl) rfl ?_ | refine G.v (bm rfl rfl) rfl ?_))
  all_goals (refine G.v (ba rfl) rfl ?_)
  all_goals (((with_reducible refine G.gP rfl rfl (fun hg => ?_) (fun hg => ?_)) <;> (try exact Bool.noConfusion hg) <;> (first | (refine G.gY rfl rfl ?_; (refine G.v (be rfl) rfl ?_)) | refine G.gN rfl rfl rfl ?_)))
  all_goals ((first | (refine G.gY rfl rfl ?_; (refine G.v (bf 0 rfl rfl rfl) rfl ?_)) | refine G.gN rfl rfl rfl ?_))
  all_goals ((first | (refine G.gY rfl rfl ?_; refine G.v (bz rfl (by exact Rd.stays (by assumption))) rfl ?_) | refine G.gN rfl rfl rfl ?_))
  all_goals ((first | (refine G.gY rfl rfl ?_; refine G.v (b6 rfl rfl) rfl ?_) | refine G.gN rfl rfl rfl ?_))
  all_goals ((first | refine G.v (bk rfl rfl) rfl ?_ | refine G.v (bm rfl rfl) rfl ?_))
  all_goals (refine G.v (ba rfl) rfl ?_)
  all_goals (((with_reducible refine G.gP rfl rfl (fun hg => ?_) (fun hg => ?_)) <;> (try exact Bool.noConfusion hg) <;> (first | (refine G.gY rfl rfl ?_; (refine G.v (be rfl) rfl ?_)) | refine G.gN rfl rfl rfl ?_)))
  all_goals ((first | (refine G.gY rfl rfl ?_; (refine G.v (bf 0 rfl rfl rfl) rfl ?_)) | refine G.gN rfl rfl rfl ?_))
  all_goals ((first | (refine G.gY rfl rfl ?_; refine G.v (bz rfl (by exact Rd.stays (by assumption))) rfl ?_) | refine G.gN rfl rfl rfl ?_))
  all_goals ((first | (refine G.gY rfl rfl ?_; refine G.op (bh rfl rfl (fun w _ => b7 _ _ _ w)) rfl (fun _ _ => ?_)) | refine G.gN rfl rfl rfl ?_))
  all_goals ((first | (refine G.gY rfl rfl ?_; refine G.v (bF rfl) rfl ?_) | refine G.gN rfl rfl rfl ?_))
  all_goals ((first | refine G.v (bk rfl rfl) rfl ?_ | refine G.v (bm rfl rfl) rfl ?_))
  all_goals (refine G.v (ba rfl) rfl ?_)
  all_goals (((with_reducible refine G.gP rfl rfl (fun hg => ?_) (fun hg => ?_)) <;> (try exact Bool.noConfusion hg) <;> (first | (refine G.gY rfl rfl ?_; (refine G.v (be rfl) rfl ?_)) | refine G.gN rfl rfl rfl ?_)))
  all_goals ((first | (refine G.gY rfl rfl ?_; (refine G.v (bf 0 rfl rfl rfl) rfl ?_)) | refine G.gN rfl rfl rfl ?_))
  all_goals ((first | (refine G.gY rfl rfl ?_; refine G.op (bh rfl rfl (fun w _ => l2Id_any _ w)) rfl (fun _ _ => ?_)) | refine G.gN rfl rfl rfl ?_))
  all_goals ((first | (refine G.gY rfl rfl ?_; refine G.v (bF rfl) rfl ?_) | refine G.gN rfl rfl rfl ?_))
  all_goals ((first | refine G.v (bk rfl rfl) rfl ?_ | refine G.v (bm rfl rfl) rfl ?_))
  all_goals (refine G.v (ba rfl) rfl ?_)
  all_goals (((with_reducible refine G.gP rfl rfl (fun hg => ?_) (fun hg => ?_)) <;> (try exact Bool.noConfusion hg) <;> (first | (refine G.gY rfl rfl ?_; (refine G.v (be rfl) rfl ?_)) | refine G.gN rfl rfl rfl ?_)))
  all_goals ((first | (refine G.gY rfl rfl ?_; (refine G.v (bf 0 rfl rfl rfl) rfl ?_)) | refine G.gN rfl rfl rfl ?_))
  all_goals ((first | (refine G.gY rfl rfl ?_; refine G.v (bz rfl (by exact Rd.stays (by assumption))) rfl ?_) | refine G.gN rfl rfl rfl ?_))
  all_goals ((first | (refine G.gY rfl rfl ?_; refine G.v (b6 rfl rfl) rfl ?_) | refine G.gN rfl rfl rfl ?_))
  all_goals ((first | refine G.v (bk rfl rfl) rfl ?_ | refine G.v (bm rfl rfl) rfl ?_))
  all_goals
   refine G.I (G.E ?_); refine G.cond rfl (fun hc => ?_) (fun hc => ?_)
   · all_goals
      try replace hc := of_decide_eq_true hc
      simp only [List.length_map] at hc
      all_goals
       refine G.seq (G.region (G.v (bb rfl) rfl (G.I (G.E (G.ret (G.O ?_))))))
       first | (have hcc : ¬ (r.pairs.length : Int) ≤ 16 := (by simp only [decide_eq_true_eq] at *; omega); refine G.U rfl rfl (congrArg Value.bool ?_); simp only [boundsOkM]; rw [decide_eq_false hcc]; simp; done) | (have hcc : ¬ (r.items.length : Int) ≤ 8 := (by omega); refine G.U rfl rfl (congrArg Value.bool ?_); simp only [boundsOkM]; rw [decide_eq_false hcc]; simp; done) | (refine G.U rfl rfl (congrArg Value.bool ?_); simp only [Bool.not_eq_true', Bool.not_eq_false', List.length_map] at *; clear h h2 h3; simp only [boundsOkM, *, Bool.and_false, Bool.false_and]; done)
   · try exact Bool.noConfusion hc
     all_goals
      replace hc := of_decide_eq_false hc
      simp only [List.length_map] at hc
      all_goals
       refine G.skip (G.E (G.seq (G.seq (G.region (G.v (bb rfl) rfl (G.I (G.E (G.block ?_))))))))
       have hi8 : r.items.length ≤ 8 := by omega
       refine G.Y (ι := Nat) (ks := [1]) (fun k => [(3, .int .i64 k)]) (fun _ => []) (fun k => k ≤ r.pairs.length ∧ (r.pairs.take k).all pairOkM = true) (fun k => r.pairs.length - k) 0 (.cons rfl (.nil)) rfl ?_ ?_ ?_
       exact ⟨Nat.zero_le _, rfl⟩
       exact ⟨rfl, trivial⟩
       rintro k ⟨hk, ht⟩
       by_cases hlt : k < r.pairs.length
       case' pos => (obtain ⟨b, hb⟩ := bn hlt; have he := bt hb PairM.cells)
       case' neg => (have hall := d5 ht hlt)
       all_goals
        refine G.seq (G.seq (G.region (G.v (ba rfl) rfl (G.v (be rfl) rfl (G.v (bf 0 rfl rfl rfl) rfl ?_))))); refine G.v (bz rfl (by exact Rd.stays (by assumption))) rfl ?_; refine G.v (br rfl rfl) rfl (G.I (G.E ?_)); refine G.cond rfl (fun hc => ?_) (fun hc => ?_)
        · all_goals
           replace hc := of_decide_eq_true hc
           simp only [List.length_map] at hc
           try (exfalso; omega)
           all_goals
            refine G.skip (G.E (G.seq (G.block (G.seq (G.region (G.v (be rfl) rfl (G.v (bf 0 rfl rfl rfl) rfl (G.v (ba rfl) rfl ?_)))))))); refine G.v (bg rfl rfl (by exact Rd.stays (by assumption)) rfl (by assumption)) rfl ?_; refine G.v (bo rfl) rfl ?_; refine G.v (bi rfl (by exact Rd.stays (by assumption)) (by assumption) rfl) rfl ?_; refine G.op (bh rfl rfl (fun w _ => b7 _ _ _ w)) rfl (fun _ _ => ?_); refine G.v (bF rfl) rfl (G.v (ba rfl) rfl ?_)
            all_goals (((with_reducible refine G.gP rfl rfl (fun hg => ?_) (fun hg => ?_)) <;> (try exact Bool.noConfusion hg) <;> (first | (refine G.gY rfl rfl ?_; (refine G.v (be rfl) rfl ?_)) | refine G.gN rfl rfl rfl ?_)))
            all_goals ((first | (refine G.gY rfl rfl ?_; (refine G.v (bf 0 rfl rfl rfl) rfl ?_)) | refine G.gN rfl rfl rfl ?_))
            all_goals ((first | (refine G.gY rfl rfl ?_; refine G.v (ba rfl) rfl ?_) | refine G.gN rfl rfl rfl ?_))
            all_goals ((first | (refine G.gY rfl rfl ?_; (refine G.v (bg rfl rfl (by exact Rd.stays (by assumption)) rfl (by assumption)) rfl ?_)) | refine G.gN rfl rfl rfl ?_))
            all_goals ((first | (refine G.gY rfl rfl ?_; (refine G.v (bo rfl) rfl ?_)) | refine G.gN rfl rfl rfl ?_))
            all_goals ((first | (refine G.gY rfl rfl ?_; refine G.v (bi rfl (by exact Rd.stays (by assumption)) (by assumption) rfl) rfl ?_) | refine G.gN rfl rfl rfl ?_))
            all_goals ((first | (refine G.gY rfl rfl ?_; refine G.op (bh rfl rfl (fun w _ => b7 _ _ _ w)) rfl (fun _ _ => ?_)) | refine G.gN rfl rfl rfl ?_))
            all_goals ((first | (refine G.gY rfl rfl ?_; refine G.v (bF rfl) rfl ?_) | refine G.gN rfl rfl rfl ?_))
            all_goals ((first | refine G.v (bk rfl rfl) rfl ?_ | refine G.v (bm rfl rfl) rfl ?_))
            all_goals
             refine G.I (G.E ?_); refine G.cond rfl (fun hc => ?_) (fun hc => ?_)
             · all_goals
                try simp only [List.length_map] at hc
                all_goals
                 refine G.seq (G.region (G.v (bb rfl) rfl (G.I (G.E (G.ret (G.bq (G.O (G.O (G.bq (G.O ?_))))))))))
                 have hno := all_no (f := pairOkM) hb (by (simp_all [pairOkM]; done)); refine G.U rfl rfl (congrArg Value.bool ?_); rw [boundsOkM, hno]; simp; done
             · try exact Bool.noConfusion hc
               all_goals
                all_goals
                 refine G.skip (G.bc (G.E (G.region (G.v (ba rfl) rfl ?_)))); refine G.v (bp rfl rfl (by omega)) rfl ?_; refine G.v (bb rfl) rfl (G.I ?_); refine G.V (k + 1) 0 rfl (.cons rfl (.nil)) ?_ ?_ ?_
                 exact ⟨rfl, trivial⟩
                 exact ⟨hlt, dG ht hb (by simp_all [pairOkM])⟩
                 omega
        · all_goals
           replace hc := of_decide_eq_false hc
           simp only [List.length_map] at hc
           try (exfalso; omega)
           all_goals
            refine G.exit (G.L (G.L (G.bn (G.E (G.seq (G.seq (G.region (G.v (bb rfl) rfl (G.I (G.E (G.block ?_))))))))))); refine G.Y (ι := Nat) (ks := [1]) (fun k => [(4, .int .i64 k)]) (fun _ => []) (fun k => k ≤ r.types.length ∧ (r.types.take k).all typeOkM = true) (fun k => r.types.length - k) 0 (.cons rfl (.nil)) rfl ?_ ?_ ?_
            exact ⟨Nat.zero_le _, rfl⟩
            exact ⟨rfl, trivial⟩
            rintro k1 ⟨hk1, ht1⟩
            by_cases hlt1 : k1 < r.types.length
            case' pos => (obtain ⟨b1, hb1⟩ := bn hlt1; have he := bt hb1 TypeM.cells)
            case' neg => (have hall1 := d5 ht1 hlt1)
            all_goals
             refine G.seq (G.seq (G.region (G.v (ba rfl) rfl (G.v (be rfl) rfl (G.v (bf 0 rfl rfl rfl) rfl ?_))))); refine G.v (bz rfl (by exact Rd.stays (by assumption))) rfl ?_; refine G.v (br rfl rfl) rfl (G.I (G.E ?_)); refine G.cond rfl (fun hc => ?_) (fun hc => ?_)
             · all_goals
                replace hc := of_decide_eq_true hc
                simp only [List.length_map] at hc
                try (exfalso; omega)
                all_goals
                 refine G.skip (G.E (G.seq (G.block (G.seq (G.region (G.v (be rfl) rfl (G.v (bf 0 rfl rfl rfl) rfl (G.v (ba rfl) rfl ?_)))))))); refine G.v (bg rfl rfl (by exact Rd.stays (by assumption)) rfl (by assumption)) rfl ?_; refine G.v (bN rfl (by exact Rd.stays (by assumption)) (by assumption) rfl) rfl ?_; refine G.op (bh rfl rfl (fun w hh => stypeOk_any b1 w)) rfl (fun _ _ => ?_); refine G.v (bF rfl) rfl (G.I (G.E ?_)); refine G.cond rfl (fun hc => ?_) (fun hc => ?_)
                 · all_goals
                    all_goals
                     refine G.seq (G.region (G.v (bb rfl) rfl (G.I (G.E (G.ret (G.bq (G.O (G.O (G.bq (G.O ?_))))))))))
                     have hno := all_no (f := typeOkM) hb1 (by simpa using hc); refine G.U rfl rfl (congrArg Value.bool ?_); rw [boundsOkM, hno]; simp; done
                 · all_goals
                    all_goals
                     refine G.skip (G.bc (G.E (G.region (G.v (ba rfl) rfl ?_)))); refine G.v (bp rfl rfl (by omega)) rfl ?_; refine G.v (bb rfl) rfl (G.I ?_); refine G.V (k1 + 1) 0 rfl (.cons rfl (.nil)) ?_ ?_ ?_
                     exact ⟨rfl, trivial⟩
                     exact ⟨hlt1, dG ht1 hb1 (by simpa using hc)⟩
                     omega
             · all_goals
                replace hc := of_decide_eq_false hc
                simp only [List.length_map] at hc
                try (exfalso; omega)
                all_goals
                 refine G.exit (G.L (G.L (G.bn (G.E (G.seq (G.region (G.v (bb rfl) rfl (G.I (G.E (G.seq (G.seq ?_))))))))))); refine G.region (G.v (bb rfl) rfl (G.I (G.E (G.block ?_)))); refine G.Y (ι := Nat) (ks := [1]) (fun k => [(5, .int .i64 (cntSum (r.items.take k))), (6, .int .i64 k)]) (fun _ => []) (fun k => k ≤ r.items.length ∧ (r.items.take k).all itemOkM = true) (fun k => r.items.length - k) 0 (.cons rfl (.nil)) rfl ?_ ?_ ?_
                 exact ⟨Nat.zero_le _, rfl⟩
                 exact ⟨rfl, rfl, trivial⟩
                 rintro k2 ⟨hk2, ht2⟩
                 have hcn := cnt_in ht2
                 rw [List.length_take, Nat.min_eq_left hk2] at hcn
                 by_cases hlt2 : k2 < r.items.length
                 case' pos => (obtain ⟨b2, hb2⟩ := bn hlt2; have he := bt hb2 ItemM.cells; have hct := cnt_take hb2)
                 all_goals
                  refine G.seq (G.seq (G.region (G.v (ba rfl) rfl (G.v (be rfl) rfl (G.v (bf 0 rfl rfl rfl) rfl ?_))))); refine G.v (bz rfl (by exact Rd.stays (by assumption))) rfl ?_; refine G.v (br rfl rfl) rfl (G.I (G.E ?_)); refine G.cond rfl (fun hc => ?_) (fun hc => ?_)
                  · all_goals
                     replace hc := of_decide_eq_true hc
                     simp only [List.length_map] at hc
                     try (exfalso; omega)
                     all_goals
                      refine G.skip (G.E (G.seq (G.block (G.seq (G.seq (G.region (G.v (be rfl) rfl (G.v (bf 0 rfl rfl rfl) rfl (G.v (ba rfl) rfl ?_))))))))); refine G.v (bg rfl rfl (by exact Rd.stays (by assumption)) rfl (by assumption)) rfl ?_; refine G.v (bN rfl (by exact Rd.stays (by assumption)) (by assumption) rfl) rfl ?_; refine G.op (bh rfl rfl (fun w hh => sitemOk_any b2 w)) rfl (fun _ _ => ?_); refine G.v (bF rfl) rfl (G.I (G.E ?_)); refine G.cond rfl (fun hc => ?_) (fun hc => ?_)
                      · all_goals
                         all_goals
                          refine G.seq (G.region (G.v (bb rfl) rfl (G.I (G.E (G.ret (G.O (G.bq (G.O (G.O (G.bq (G.O ?_)))))))))))
                          have hno := all_no (f := itemOkM) hb2 (by simpa using hc); refine G.U rfl rfl (congrArg Value.bool ?_); rw [boundsOkM, hno]; simp; done
                      · all_goals
                         all_goals
                          have hcb := dZ (b := b2) (by simpa using hc)
                          all_goals
                           refine G.skip (G.E (G.region (G.v (ba rfl) rfl (G.v (be rfl) rfl (G.v (bf 0 rfl rfl rfl) rfl (G.v (ba rfl) rfl ?_)))))); refine G.v (bg rfl rfl (by exact Rd.stays (by assumption)) rfl (by assumption)) rfl ?_; refine G.v (bo rfl) rfl ?_; refine G.v (bi rfl (by exact Rd.stays (by assumption)) (by assumption) rfl) rfl ?_; refine G.v (bD rfl rfl (by omega) (by omega)) rfl ?_; refine G.v (bb rfl) rfl (G.I (G.bc (G.E (G.region (G.v (ba rfl) rfl ?_))))); refine G.v (bp rfl rfl (by omega)) rfl ?_; refine G.v (bb rfl) rfl (G.I ?_); refine G.V (k2 + 1) 0 rfl (.cons rfl (.nil)) ?_ ?_ ?_
                           exact ⟨congrArg (fun z => some (Value.int .i64 z)) hct.symm, rfl, trivial⟩
                           exact ⟨hlt2, dG ht2 hb2 (by simpa using hc)⟩
                           omega
                  · all_goals
                     replace hc := of_decide_eq_false hc
                     simp only [List.length_map] at hc
                     try (exfalso; omega)
                     all_goals
                      refine G.exit (G.L (G.L (G.bn (G.E (G.seq (G.region (G.v (ba rfl) rfl (G.v (ci rfl rfl) rfl (G.v (bb rfl) rfl (G.I (G.E ?_))))))))))); refine G.ret ?_
                      have hal := d5 ht2 hlt2; refine G.U rfl rfl (congrArg Value.bool ?_); rw [bZ hlt2]; simp only [Bool.not_eq_true', Bool.not_eq_false', List.length_map] at *; clear h h2 h3; have hd1 : (r.pairs.length : Int) ≤ 16 := (by simp only [decide_eq_false_iff_not] at *; omega); have hd2 : (r.items.length : Int) ≤ 8 := (by omega); simp only [boundsOkM, decide_eq_true hd1, decide_eq_true hd2, *, decide_true, Bool.and_true, Bool.true_and]; done
theorem rv_eqlPair {P : Program} {n : Nat} {w0 : World} {fr : Fr} {H : List Ch} {x y : Operand} {t t' : TypeId} [hT : TySI P t 2] {a b : PairM} (hx : opv fr x = some (.agg a.cells.toArray)) (hy : opv fr y = some (.agg b.cells.toArray)) : RunsV P n w0 fr H (.binOp .eql t x y t') (.bool (decide (a = b))) := by
  have := rv_eqlL (P := P) (n := n) (w0 := w0) (H := H) (t := t) (t' := t') (xs := [a.a, a.b]) (ys := [b.a, b.b]) hx hy rfl rfl
  rwa [show decide ([a.a, a.b] = [b.a, b.b]) = decide (a = b) from decide_eq_decide.2 (by cases a; cases b; simp)] at this
theorem beside_eq (l : List PairM) (a b : Int) : l.any (fun p => decide (PairM.mk a b = p)) = besideM l a b := by
  rw [besideM]
  congr 1
  funext p
  obtain ⟨x, y⟩ := p
  rw [← Bool.decide_and]
  exact decide_eq_decide.2 (by simp only [PairM.mk.injEq]; constructor <;> rintro ⟨rfl, rfl⟩ <;> exact ⟨rfl, rfl⟩)
theorem findPair_any {v : Value} {l : List PairM} (c : PairM) (w : World) (h : Rd w v 2 (l.map PairM.cells)) : FnV Tryz.prog 244 [v, c.val] w (.int .i64 (idxM (fun p => decide (c = p)) l)) := by
  have hle := h.le_map
  refine FnV.of (n := 19) Tryz.func244 rfl rfl ?_; refine G.seq (G.region ?_); refine G.op (bE rfl rfl) rfl (fun bk3 _ => ?_); refine G.v (bb rfl) rfl (G.I (G.E (G.seq (G.seq (G.region (G.v (ba rfl) rfl ?_)))))); refine G.v (bz rfl (by exact Rd.stays (by assumption))) rfl ?_; refine G.v (ba rfl) rfl (G.I (G.E (G.block ?_))); refine G.Y (ι := Nat) (ks := [0, 3, 7]) (fun k => [(8, .int .i64 k)]) (fun _ => []) (fun k => k ≤ l.length ∧ (l.take k).any (fun p => decide (c = p)) = false) (fun k => l.length - k) 0 (.cons rfl (.cons rfl (.cons rfl (.nil)))) rfl ?_ ?_ ?_
  exact ⟨Nat.zero_le _, rfl⟩
  exact ⟨rfl, trivial⟩
  rintro k ⟨hk, ht⟩
  by_cases hlt : k < l.length
  case' pos => (obtain ⟨b, hb⟩ := bn hlt; have he := bt hb PairM.cells)
  all_goals
   refine G.seq (G.region (G.v (br rfl rfl) rfl (G.I (G.E (G.seq ?_))))); refine G.cond rfl (fun hc => ?_) (fun hc => ?_)
   · all_goals
      replace hc := of_decide_eq_true hc
      simp only [List.length_map] at hc
      try (exfalso; omega)
      all_goals
       refine G.skip (G.E (G.seq (G.block (G.seq (G.region (G.v (ba rfl) rfl (G.v (bb rfl) rfl (G.I (G.E (G.seq ?_)))))))))); refine G.ba [] ?_; refine GE.q 0 rfl (by as_aux_lemma => kernel_rfl) rfl (bc (bj 0 rfl rfl rfl)) rfl ?_; refine GE.q 1 rfl (by as_aux_lemma => kernel_rfl) rfl (bc (ba rfl)) rfl ?_; refine GE.V 2 (by as_aux_lemma => kernel_rfl) rfl rfl (bd (ba rfl)) rfl (fun _ _ h => by exact h) (fun _ _ => ?_); refine GE.V 3 (by as_aux_lemma => kernel_rfl) rfl rfl (bd (bg rfl rfl (by exact Rd.stays (by assumption)) rfl (by assumption))) rfl (fun _ _ h => by exact h) (fun _ _ => ?_); refine GE.V 4 (by as_aux_lemma => kernel_rfl) rfl rfl (bd (bN rfl (by exact Rd.stays (by assumption)) (by assumption) rfl)) rfl (fun _ _ h => by exact h) (fun _ _ => ?_); refine GE.V 5 (by as_aux_lemma => kernel_rfl) rfl rfl (bd (rv_eqlPair rfl rfl)) rfl (fun _ _ h => by exact h) (fun _ _ => ?_); refine GE.E (by as_aux_lemma => kernel_rfl) ?_; refine G.E ?_; refine G.cond rfl (fun hc => ?_) (fun hc => ?_)
       · all_goals
          replace hc := of_decide_eq_true hc
          all_goals
           refine G.seq (G.region (G.v (ba rfl) rfl (G.v (bb rfl) rfl (G.I (G.E (G.ret (G.bq (G.O (G.O (G.bq (G.O ?_)))))))))))
           exact G.U rfl rfl (congrArg (Value.int .i64) (di ht hb (by simpa using hc)).symm)
       · all_goals
          replace hc := of_decide_eq_false hc
          all_goals
           refine G.skip (G.bc (G.E (G.region ?_))); refine G.v (bp rfl rfl (by omega)) rfl ?_; refine G.v (ba rfl) rfl (G.I ?_); refine G.V (k + 1) 0 rfl (.cons rfl (.cons rfl (.cons rfl (.nil)))) ?_ ?_ ?_
           exact ⟨rfl, trivial⟩
           exact ⟨hlt, cc ht hb (by simpa using hc)⟩
           omega
   · all_goals
      replace hc := of_decide_eq_false hc
      simp only [List.length_map] at hc
      try (exfalso; omega)
      all_goals
       refine G.exit (G.L (G.L (G.bn (G.E (G.seq (G.region (G.v (bb rfl) rfl (G.I (G.E (G.ret ?_))))))))))
       exact G.U rfl rfl (congrArg (Value.int .i64) (cy ht hlt).symm)
theorem hasPair_any {v : Value} {l : List PairM} (c : PairM) (w : World) (h : Rd w v 2 (l.map PairM.cells)) : FnV Tryz.prog 239 [v, c.val] w (.bool (l.any (fun p => decide (c = p)))) := by
  refine FnV.of (n := 9) Tryz.func239 rfl rfl ?_; refine G.seq (G.region ?_); refine G.op (bE rfl rfl) rfl (fun bk3 _ => ?_); refine G.v (bb rfl) rfl (G.I (G.E (G.seq (G.region (G.v (ba rfl) rfl (G.v (bj 0 rfl rfl rfl) rfl ?_)))))); refine G.op (bh rfl rfl (fun w hh => findPair_any c w (Rd.stays h _ hh))) rfl (fun _ _ => ?_); refine G.v (cu rfl rfl) rfl (G.v (bb rfl) rfl (G.I (G.E (G.ret ?_))))
  exact G.U rfl rfl (congrArg Value.bool (cT _ l))
theorem dK {v : Value} {l : List PairM} (a b : Int) (w : World) (h : Rd w v 2 (l.map PairM.cells)) : FnV Tryz.prog 219 [v, .int .i64 a, .int .i64 b] w (.bool (besideM l a b)) := by
  refine FnV.of (n := 12) Tryz.func219 rfl rfl ?_; refine G.seq (G.region (G.v (bb rfl) rfl (G.I (G.E (G.seq (G.region (G.v (ba rfl) rfl (G.v (ba rfl) rfl (G.v (ba rfl) rfl ?_))))))))); refine G.v (bJ rfl (.cons rfl (.cons rfl .nil)) (.cons rfl rfl (.zero (.cons .nil)) (.cons rfl rfl (.succ (.zero (.cons .nil))) .nil))) rfl ?_; refine G.op (bh rfl rfl (fun w hh => hasPair_any ⟨a, b⟩ w (Rd.stays h _ hh))) rfl (fun _ _ => ?_); refine G.v (bb rfl) rfl (G.I (G.E (G.ret ?_)))
  exact G.U rfl rfl (congrArg Value.bool (beside_eq l a b))
theorem dw {v : Value} {l : List PairM} (a b : Int) (w : World) (h : Rd w v 2 (l.map PairM.cells)) : FnV Tryz.prog 151 [v, .int .i64 a, .int .i64 b] w (.bool (besideM l a b)) := by
  have hle := h.le_map
  refine FnV.of (n := 30) Tryz.func151 rfl rfl ?_; refine G.seq (G.region (G.v (bb rfl) rfl (G.I (G.E (G.seq (G.seq (G.region (G.v (bb rfl) rfl (G.I (G.E (G.block ?_))))))))))); refine G.Y (ι := Nat) (ks := [0, 1, 2]) (fun k => [(7, .int .i64 k)]) (fun _ => []) (fun k => k ≤ l.length ∧ (l.take k).any (fun p => decide (p.a = a) && decide (p.b = b)) = false) (fun k => l.length - k) 0 (.cons rfl (.cons rfl (.cons rfl (.nil)))) rfl ?_ ?_ ?_
  exact ⟨Nat.zero_le _, rfl⟩
  exact ⟨rfl, trivial⟩
  rintro k ⟨hk, ht⟩
  by_cases hlt : k < l.length
  case' pos => (obtain ⟨c, hb⟩ := bn hlt; have he := bt hb PairM.cells)
  all_goals
   refine G.seq (G.seq (G.region (G.v (ba rfl) rfl (G.v (ba rfl) rfl ?_)))); refine G.v (bz rfl (by exact Rd.stays (by assumption))) rfl ?_; refine G.v (br rfl rfl) rfl (G.I (G.E ?_)); refine G.cond rfl (fun hc => ?_) (fun hc => ?_)
   · all_goals
      replace hc := of_decide_eq_true hc
      simp only [List.length_map] at hc
      try (exfalso; omega)
      all_goals
       refine G.skip (G.E (G.seq (G.block (G.seq (G.region (G.v (ba rfl) rfl (G.v (ba rfl) rfl ?_))))))); refine G.v (bg rfl rfl (by exact Rd.stays (by assumption)) rfl (by assumption)) rfl ?_; refine G.v (bo rfl) rfl ?_; refine G.v (bi rfl (by exact Rd.stays (by assumption)) (by assumption) rfl) rfl ?_; refine G.v (ba rfl) rfl (G.v (bQ rfl rfl) rfl (G.v (ba rfl) rfl ?_))
       all_goals (((with_reducible refine G.gP rfl rfl (fun hg => ?_) (fun hg => ?_)) <;> (try exact Bool.noConfusion hg) <;> (first | (refine G.gY rfl rfl ?_; refine G.v (ba rfl) rfl ?_) | refine G.gN rfl rfl rfl ?_)))
       all_goals ((first | (refine G.gY rfl rfl ?_; refine G.v (ba rfl) rfl ?_) | refine G.gN rfl rfl rfl ?_))
       all_goals ((first | (refine G.gY rfl rfl ?_; (refine G.v (bg rfl rfl (by exact Rd.stays (by assumption)) rfl (by assumption)) rfl ?_)) | refine G.gN rfl rfl rfl ?_))
       all_goals ((first | (refine G.gY rfl rfl ?_; (refine G.v (bo rfl) rfl ?_)) | refine G.gN rfl rfl rfl ?_))
       all_goals ((first | (refine G.gY rfl rfl ?_; refine G.v (bi rfl (by exact Rd.stays (by assumption)) (by assumption) rfl) rfl ?_) | refine G.gN rfl rfl rfl ?_))
       all_goals ((first | (refine G.gY rfl rfl ?_; refine G.v (ba rfl) rfl ?_) | refine G.gN rfl rfl rfl ?_))
       all_goals ((first | (refine G.gY rfl rfl ?_; refine G.v (bQ rfl rfl) rfl ?_) | refine G.gN rfl rfl rfl ?_))
       all_goals ((first | refine G.v (bk rfl rfl) rfl ?_ | refine G.v (bm rfl rfl) rfl ?_))
       all_goals
        refine G.I (G.E ?_); refine G.cond rfl (fun hc => ?_) (fun hc => ?_)
        · try exact Bool.noConfusion hc
          all_goals
           replace hc := of_decide_eq_true hc
           all_goals
            refine G.seq (G.region (G.v (bb rfl) rfl (G.I (G.E (G.ret (G.bq (G.O (G.O (G.bq (G.O ?_)))))))))); refine G.U rfl rfl (congrArg Value.bool ?_); rw [besideM, ← cT, di ht hb (by simp_all)]; exact (decide_eq_true (by omega)).symm
        · all_goals
           try replace hc := of_decide_eq_false hc
           try simp only [List.length_map] at hc
           all_goals
            refine G.skip (G.bc (G.E (G.region (G.v (ba rfl) rfl ?_)))); refine G.v (bp rfl rfl (by omega)) rfl ?_; refine G.v (bb rfl) rfl (G.I ?_); refine G.V (k + 1) 0 rfl (.cons rfl (.cons rfl (.cons rfl (.nil)))) ?_ ?_ ?_
            exact ⟨rfl, trivial⟩
            exact ⟨hlt, cc ht hb (by simp_all)⟩
            omega
   · all_goals
      replace hc := of_decide_eq_false hc
      simp only [List.length_map] at hc
      try (exfalso; omega)
      all_goals
       refine G.exit (G.L (G.L (G.bn (G.E (G.seq (G.region (G.v (bb rfl) rfl (G.I (G.E (G.ret ?_)))))))))); refine G.U rfl rfl (congrArg Value.bool ?_); rw [besideM, ← cT, cy ht hlt]; rfl
def tblRow (ps : List PairM) (m : Nat) (a : Nat) : Bool := besideM ps a a && (List.range m).all fun b => besideM ps a b == besideM ps b a
def tblCell (ps : List PairM) (a b : Nat) : Bool := (!decide (a = b) || besideM ps a a) && (besideM ps a b == besideM ps b a)
theorem tbl_row {ps : List PairM} {m a : Nat} (ha : a < m) : (List.range m).all (tblCell ps a) = tblRow ps m a := by
  rw [Bool.eq_iff_iff]
  simp only [List.all_eq_true, List.mem_range, tblRow, tblCell, Bool.and_eq_true, Bool.or_eq_true, Bool.not_eq_true', decide_eq_false_iff_not]
  constructor
  · intro h
    exact ⟨((h a ha).1).resolve_left (fun hn => hn rfl), fun b hb => (h b hb).2⟩
  · intro h b hb
    exact ⟨.inr h.1, h.2 b hb⟩
theorem tbl_in {ps : List PairM} {m : Nat} (h1 : 1 ≤ m) (h2 : m ≤ 4) : tableOkM ps (m : Int) = (List.range m).all (tblRow ps m) := by
  have : inB (m : Int) 1 4 = true := by simp [inB]; omega
  rw [tableOkM, this, Bool.true_and, Int.toNat_natCast]
  rfl
theorem da {f : Nat → Bool} {k : Nat} (h : (List.range k).all f = true) (hk : f k = true) : (List.range (k + 1)).all f = true := by
  rw [List.range_succ, List.all_append, h]; simp [hk]
theorem rall_no {f : Nat → Bool} {m k : Nat} (h : k < m) (hk : f k = false) : (List.range m).all f = false := by
  rw [List.all_eq_false]; exact ⟨k, List.mem_range.2 h, by simp [hk]⟩
theorem classes_nat {n : Int} (h : inB n 1 4 = true) : ∃ m : Nat, n = m ∧ 1 ≤ m ∧ m ≤ 4 := by
  simp only [inB, Bool.and_eq_true, decide_eq_true_eq] at h
  exact ⟨n.toNat, by omega, by omega, by omega⟩
theorem tableOk_any {v : Value} {l : List PairM} (n : Int) (w : World) (h : Rd w v 2 (l.map PairM.cells)) : FnV Tryz.prog 172 [v, .int .i64 n] w (.bool (tableOkM l n)) := by
  refine FnV.of (n := 34) Tryz.func172 rfl rfl ?_; refine G.seq (G.region (G.v (bb rfl) rfl (G.I (G.E (G.seq (G.seq (G.region (G.v (ba rfl) rfl ?_)))))))); refine G.op (bh rfl rfl (fun w _ => b5 _ _ _ w)) rfl (fun _ _ => ?_); refine G.v (bF rfl) rfl (G.I (G.E ?_)); refine G.cond rfl (fun hc => ?_) (fun hc => ?_); refine G.seq (G.region (G.v (bb rfl) rfl (G.I (G.E (G.ret (G.O ?_)))))); refine G.U rfl rfl (congrArg Value.bool ?_); rw [tableOkM, (by simpa using hc : inB n 1 4 = false)]; rfl
  · refine G.skip ?_
    refine G.E (G.seq (G.seq (G.region (G.v (ba rfl) rfl (G.v (ba rfl) rfl (G.I (G.E (G.block ?_))))))))
    obtain ⟨m, hm, hm1, hm4⟩ := classes_nat (n := n) (by simpa using hc)
    subst hm
    refine G.Y (ι := Nat) (ks := [0, 1, 10]) (fun k => [(11, .int .i64 k)]) (fun _ => []) (fun k => k ≤ m ∧ (List.range k).all (tblRow l m) = true) (fun k => m - k) 0 (.cons rfl (.cons rfl (.cons rfl (.nil)))) rfl ?_ ?_ ?_
    exact ⟨Nat.zero_le _, rfl⟩
    exact ⟨rfl, trivial⟩
    rintro k ⟨hk, ht⟩
    by_cases hlt : k < m
    all_goals
     refine G.seq (G.region (G.v (br rfl rfl) rfl (G.I (G.E (G.seq ?_))))); refine G.cond rfl (fun hc => ?_) (fun hc => ?_)
     · all_goals
        replace hc := of_decide_eq_true hc
        try (exfalso; omega)
        all_goals
         refine G.skip (G.E (G.seq (G.block (G.seq (G.region (G.v (ba rfl) rfl (G.v (bb rfl) rfl (G.I (G.E (G.seq (G.seq ?_))))))))))); refine G.region (G.v (ba rfl) rfl (G.v (ba rfl) rfl (G.v (ba rfl) rfl ?_))); refine G.op (bh rfl rfl (fun w hh => dK _ _ w (by exact Rd.stays (by assumption) _ hh))) rfl (fun _ _ => ?_); refine G.v (bF rfl) rfl (G.I (G.E ?_)); refine G.cond rfl (fun hc => ?_) (fun hc => ?_)
         · all_goals
            all_goals
             refine G.seq (G.region (G.v (bb rfl) rfl (G.I (G.E (G.ret (G.O (G.bq (G.O (G.O (G.bq (G.O ?_))))))))))); refine G.U rfl rfl (congrArg Value.bool ?_); rw [tbl_in hm1 hm4, rall_no hlt (by rw [tblRow, (by simpa using hc : besideM l k k = false), Bool.false_and])]; done
         · all_goals
            all_goals
             have hbb := hc
             all_goals
              refine G.skip (G.E (G.seq (G.region (G.v (ba rfl) rfl (G.v (ba rfl) rfl (G.I (G.E (G.block ?_)))))))); refine G.Y (ι := Nat) (ks := [0, 1, 5, 10, 11, 19]) (fun k => [(20, .int .i64 k)]) (fun _ => []) (fun b => b ≤ m ∧ (List.range b).all (fun b => besideM l k b == besideM l b k) = true) (fun k => m - k) 0 (.cons rfl (.cons rfl (.cons rfl (.cons rfl (.cons rfl (.cons rfl (.nil))))))) rfl ?_ ?_ ?_
              exact ⟨Nat.zero_le _, rfl⟩
              exact ⟨rfl, trivial⟩
              rintro k2 ⟨hk2, ht2⟩
              by_cases hlt2 : k2 < m
              all_goals
               refine G.seq (G.region (G.v (br rfl rfl) rfl (G.I (G.E (G.seq ?_))))); refine G.cond rfl (fun hc => ?_) (fun hc => ?_)
               · all_goals
                  replace hc := of_decide_eq_true hc
                  try (exfalso; omega)
                  all_goals
                   refine G.skip (G.E (G.seq (G.block (G.seq (G.region (G.v (ba rfl) rfl (G.v (bb rfl) rfl (G.I (G.E (G.seq (G.region ?_))))))))))); refine G.v (ba rfl) rfl (G.v (ba rfl) rfl (G.v (ba rfl) rfl ?_)); refine G.op (bh rfl rfl (fun w hh => dK _ _ w (by exact Rd.stays (by assumption) _ hh))) rfl (fun _ _ => ?_); refine G.v (ba rfl) rfl (G.v (ba rfl) rfl (G.v (ba rfl) rfl ?_)); refine G.op (bh rfl rfl (fun w hh => dK _ _ w (by exact Rd.stays (by assumption) _ hh))) rfl (fun _ _ => ?_); refine G.v (rv_neqb rfl rfl) rfl (G.I (G.E ?_)); refine G.cond rfl (fun hc => ?_) (fun hc => ?_)
                   · all_goals
                      replace hc := of_decide_eq_true hc
                      all_goals
                       refine G.seq (G.region (G.v (bb rfl) rfl (G.I (G.E (G.ret (G.bq (G.O (G.O (G.bq (G.bq (G.O ?_))))))))))); refine G.O (G.bq (G.O ?_)); refine G.U rfl rfl (congrArg Value.bool ?_); rw [tbl_in hm1 hm4, rall_no hlt (by rw [tblRow, rall_no hlt2 (by simpa using hc), Bool.and_false])]; done
                   · all_goals
                      replace hc := of_decide_eq_false hc
                      all_goals
                       refine G.skip (G.bc (G.E (G.region ?_))); refine G.v (bp rfl rfl (by omega)) rfl ?_; refine G.v (ba rfl) rfl (G.I ?_); refine G.V (k2 + 1) 0 rfl (.cons rfl (.cons rfl (.cons rfl (.cons rfl (.cons rfl (.cons rfl (.nil))))))) ?_ ?_ ?_
                       exact ⟨rfl, trivial⟩
                       exact ⟨hlt2, da ht2 (by simpa using hc)⟩
                       omega
               · all_goals
                  replace hc := of_decide_eq_false hc
                  try (exfalso; omega)
                  all_goals
                   refine G.exit (G.L (G.L (G.bn (G.bc (G.E (G.region ?_)))))); refine G.v (bp rfl rfl (by omega)) rfl ?_; refine G.v (ba rfl) rfl (G.I ?_); refine G.V (k + 1) 0 rfl (.cons rfl (.cons rfl (.cons rfl (.nil)))) ?_ ?_ ?_
                   exact ⟨rfl, trivial⟩
                   exact ⟨hlt, da ht (by rw [tblRow, (by simpa using hbb : besideM l k k = true), Bool.true_and]; exact (by rwa [show k2 = m by omega] at ht2))⟩
                   omega
     · all_goals
        replace hc := of_decide_eq_false hc
        try (exfalso; omega)
        all_goals
         refine G.exit (G.L (G.L (G.bn (G.E (G.seq (G.region (G.v (bb rfl) rfl (G.I (G.E (G.ret ?_))))))))))
         have hkm : k = m := (by omega); refine G.U rfl rfl (congrArg Value.bool ?_); rw [hkm] at ht; rw [tbl_in hm1 hm4]; exact ht.symm
theorem stableOk_any {v : Value} {l : List PairM} (n : Int) (w : World) (h : Rd w v 2 (l.map PairM.cells)) : FnV Tryz.prog 85 [v, .int .i64 n] w (.bool (tableOkM l n)) := by
  refine FnV.of (n := 41) Tryz.func85 rfl rfl ?_; refine G.seq (G.region (G.v (bb rfl) rfl (G.I (G.E (G.seq (G.seq (G.region (G.v (ba rfl) rfl ?_)))))))); refine G.op (bh rfl rfl (fun w _ => b7 _ _ _ w)) rfl (fun _ _ => ?_); refine G.v (bF rfl) rfl (G.I (G.E ?_)); refine G.cond rfl (fun hc => ?_) (fun hc => ?_); refine G.seq (G.region (G.v (bb rfl) rfl (G.I (G.E (G.ret (G.O ?_)))))); refine G.U rfl rfl (congrArg Value.bool ?_); rw [tableOkM, (by simpa using hc : inB n 1 4 = false)]; rfl
  · refine G.skip ?_
    refine G.E (G.seq (G.seq (G.region (G.v (bb rfl) rfl (G.I (G.E (G.block ?_)))))))
    obtain ⟨m, hm, hm1, hm4⟩ := classes_nat (n := n) (by simpa using hc)
    subst hm
    refine G.Y (ι := Nat) (ks := [0, 1]) (fun k => [(5, .int .i64 k)]) (fun _ => []) (fun k => k ≤ m ∧ (List.range k).all (tblRow l m) = true) (fun k => m - k) 0 (.cons rfl (.cons rfl (.nil))) rfl ?_ ?_ ?_
    exact ⟨Nat.zero_le _, rfl⟩
    exact ⟨rfl, trivial⟩
    rintro k ⟨hk, ht⟩
    by_cases hlt : k < m
    all_goals
     refine G.seq (G.seq (G.region (G.v (ba rfl) rfl (G.v (ba rfl) rfl (G.v (br rfl rfl) rfl (G.I (G.E ?_))))))); refine G.cond rfl (fun hc => ?_) (fun hc => ?_)
     · all_goals
        replace hc := of_decide_eq_true hc
        try (exfalso; omega)
        all_goals
         refine G.skip (G.E (G.seq (G.block (G.seq (G.region (G.v (bb rfl) rfl (G.I (G.E (G.block ?_))))))))); refine G.Y (ι := Nat) (ks := [0, 1, 5]) (fun k => [(6, .int .i64 k)]) (fun _ => []) (fun b => b ≤ m ∧ (List.range b).all (tblCell l k) = true) (fun k => m - k) 0 (.cons rfl (.cons rfl (.cons rfl (.nil)))) rfl ?_ ?_ ?_
         exact ⟨Nat.zero_le _, rfl⟩
         exact ⟨rfl, trivial⟩
         rintro k2 ⟨hk2, ht2⟩
         by_cases hlt2 : k2 < m
         all_goals
          refine G.seq (G.seq (G.region (G.v (ba rfl) rfl (G.v (ba rfl) rfl (G.v (br rfl rfl) rfl (G.I (G.E ?_))))))); refine G.cond rfl (fun hc => ?_) (fun hc => ?_)
          · all_goals
             replace hc := of_decide_eq_true hc
             try (exfalso; omega)
             all_goals
              refine G.skip (G.E (G.seq (G.block (G.seq (G.region (G.v (ba rfl) rfl (G.v (ba rfl) rfl (G.v (bQ rfl rfl) rfl (G.v (ba rfl) rfl ?_)))))))))
              all_goals (((with_reducible refine G.gP rfl rfl (fun hg => ?_) (fun hg => ?_)) <;> (try exact Bool.noConfusion hg) <;> (first | (refine G.gY rfl rfl ?_; refine G.v (ba rfl) rfl ?_) | refine G.gN rfl rfl rfl ?_)))
              all_goals ((first | (refine G.gY rfl rfl ?_; refine G.v (ba rfl) rfl ?_) | refine G.gN rfl rfl rfl ?_))
              all_goals ((first | (refine G.gY rfl rfl ?_; refine G.v (ba rfl) rfl ?_) | refine G.gN rfl rfl rfl ?_))
              all_goals ((first | (refine G.gY rfl rfl ?_; refine G.op (bh rfl rfl (fun w hh => dw _ _ w (by exact Rd.stays (by assumption) _ hh))) rfl (fun _ _ => ?_)) | refine G.gN rfl rfl rfl ?_))
              all_goals ((first | (refine G.gY rfl rfl ?_; refine G.v (bF rfl) rfl ?_) | refine G.gN rfl rfl rfl ?_))
              all_goals ((first | refine G.v (bk rfl rfl) rfl ?_ | refine G.v (bm rfl rfl) rfl ?_))
              all_goals (refine G.v (ba rfl) rfl ?_)
              all_goals (((with_reducible refine G.gP rfl rfl (fun hg => ?_) (fun hg => ?_)) <;> (try exact Bool.noConfusion hg) <;> (first | (refine G.gY rfl rfl ?_; refine G.v (ba rfl) rfl ?_) | refine G.gN rfl rfl rfl ?_)))
              all_goals ((first | (refine G.gY rfl rfl ?_; refine G.v (ba rfl) rfl ?_) | refine G.gN rfl rfl rfl ?_))
              all_goals ((first | (refine G.gY rfl rfl ?_; refine G.v (ba rfl) rfl ?_) | refine G.gN rfl rfl rfl ?_))
              all_goals ((first | (refine G.gY rfl rfl ?_; refine G.op (bh rfl rfl (fun w hh => dw _ _ w (by exact Rd.stays (by assumption) _ hh))) rfl (fun _ _ => ?_)) | refine G.gN rfl rfl rfl ?_))
              all_goals ((first | (refine G.gY rfl rfl ?_; refine G.v (ba rfl) rfl ?_) | refine G.gN rfl rfl rfl ?_))
              all_goals ((first | (refine G.gY rfl rfl ?_; refine G.v (ba rfl) rfl ?_) | refine G.gN rfl rfl rfl ?_))
              all_goals ((first | (refine G.gY rfl rfl ?_; refine G.v (ba rfl) rfl ?_) | refine G.gN rfl rfl rfl ?_))
              all_goals ((first | (refine G.gY rfl rfl ?_; refine G.op (bh rfl rfl (fun w hh => dw _ _ w (by exact Rd.stays (by assumption) _ hh))) rfl (fun _ _ => ?_)) | refine G.gN rfl rfl rfl ?_))
              all_goals ((first | (refine G.gY rfl rfl ?_; refine G.v (rv_neqb rfl rfl) rfl ?_) | refine G.gN rfl rfl rfl ?_))
              all_goals ((first | refine G.v (bk rfl rfl) rfl ?_ | refine G.v (bm rfl rfl) rfl ?_))
              all_goals
               refine G.I (G.E ?_); refine G.cond rfl (fun hc => ?_) (fun hc => ?_)
               · all_goals
                  try replace hc := of_decide_eq_true hc
                  all_goals
                   refine G.seq (G.region (G.v (bb rfl) rfl (G.I (G.E (G.ret (G.bq (G.O (G.O (G.bq (G.bq (G.O ?_))))))))))); refine G.O (G.bq (G.O ?_)); refine G.U rfl rfl (congrArg Value.bool ?_); rw [tbl_in hm1 hm4, rall_no hlt (by rw [← tbl_row hlt]; exact rall_no hlt2 (by simp only [tblCell]; simp_all <;> omega))]; done
               · try exact Bool.noConfusion hc
                 all_goals
                  replace hc := of_decide_eq_false hc
                  all_goals
                   refine G.skip (G.bc (G.E (G.region (G.v (ba rfl) rfl ?_)))); refine G.v (bp rfl rfl (by omega)) rfl ?_; refine G.v (bb rfl) rfl (G.I ?_); refine G.V (k2 + 1) 0 rfl (.cons rfl (.cons rfl (.cons rfl (.nil)))) ?_ ?_ ?_
                   exact ⟨rfl, trivial⟩
                   exact ⟨hlt2, da ht2 (by simp only [tblCell]; simp_all <;> omega)⟩
                   omega
          · all_goals
             replace hc := of_decide_eq_false hc
             try (exfalso; omega)
             all_goals
              refine G.exit (G.L (G.L (G.bn (G.bc (G.E (G.region (G.v (ba rfl) rfl ?_))))))); refine G.v (bp rfl rfl (by omega)) rfl ?_; refine G.v (bb rfl) rfl (G.I ?_); refine G.V (k + 1) 0 rfl (.cons rfl (.cons rfl (.nil))) ?_ ?_ ?_
              exact ⟨rfl, trivial⟩
              exact ⟨hlt, da ht (by rw [← tbl_row hlt]; exact (by rwa [show k2 = m by omega] at ht2))⟩
              omega
     · all_goals
        replace hc := of_decide_eq_false hc
        try (exfalso; omega)
        all_goals
         refine G.exit (G.L (G.L (G.bn (G.E (G.seq (G.region (G.v (bb rfl) rfl (G.I (G.E (G.ret ?_))))))))))
         have hkm : k = m := (by omega); refine G.U rfl rfl (congrArg Value.bool ?_); rw [hkm] at ht; rw [tbl_in hm1 hm4]; exact ht.symm
/-- Whether a thing's number is one of those ahead of it. -/
def dupAt {α : Type} (f : α → Int) (l : List α) (i : Nat) : Bool := match l[i]? with | some t => (l.take i).any (fun q => decide (f q = f t)) | none => false
theorem d7 {α : Type} {f : α → Int} {l : List α} {i : Nat} {t : α} (h : l[i]? = some t) : dupAt f l i = (l.take i).any (fun q => decide (f q = f t)) := by rw [dupAt, h]
def itemBad (r : ReqM) (i : Nat) : Bool := match r.items[i]? with | some x => decide (x.cls ≥ r.classes) || dupAt ItemM.id r.items i | none => false
theorem item_bad {r : ReqM} {i : Nat} {x : ItemM} (h : r.items[i]? = some x) : itemBad r i = (decide (x.cls ≥ r.classes) || dupAt ItemM.id r.items i) := by rw [itemBad, h]
def pairIn (r : ReqM) (p : PairM) : Bool := !(decide (p.a ≥ r.classes) || decide (p.b ≥ r.classes))
def namesM (r : ReqM) : Bool :=
  (List.range r.types.length).all (fun i => !dupAt TypeM.id r.types i) && (List.range r.items.length).all (fun i => !itemBad r i) && r.pairs.all (pairIn r) && (typeAt r r.master).2
theorem range_no {f : Nat → Bool} {n k : Nat} (h : k < n) (hf : f k = true) : (List.range n).all (fun i => !f i) = false := rall_no h (by rw [hf]; rfl)
theorem ReqM.good {r : ReqM} {pv tv iv : Value} (h1 : pv.oneCell' = true) (h2 : tv.oneCell' = true) (h3 : iv.oneCell' = true) : (r.cells pv tv iv).all Value.oneCell' = true := by
  simp only [ReqM.cells, List.all_cons, List.all_nil, h1, h2, h3]; rfl
theorem namesOk1_any (t b : TypeM) {q : Nat} (w : World) (h : Rd w (.slice (some ⟨q, 0, none⟩) 1 1) 7 [t.cells]) : FnV Tryz.prog 226 [.agg (TypeM.cells b).toArray, pB q 0] w (.bool (decide (b.id = t.id))) := by
  rw [cp q 7]
  refine FnV.of (n := 9) Tryz.func226 rfl rfl ?_; refine G.seq (G.region ?_); refine G.op (bE rfl rfl) rfl (fun bk2 _ => ?_); refine G.v (bb rfl) rfl (G.I (G.E (G.seq (G.region (G.v (be rfl) rfl (G.v (bf 0 rfl rfl rfl) rfl (G.v (bo rfl) rfl ?_))))))); refine G.v (bi rfl (by exact Rd.stays (by assumption)) rfl rfl) rfl ?_; refine G.v (bQ rfl rfl) rfl (G.v (bb rfl) rfl (G.I (G.E (G.ret ?_))))
  exact G.U rfl rfl rfl
theorem namesOk2_any (t b : ItemM) {q : Nat} (w : World) (h : Rd w (.slice (some ⟨q, 0, none⟩) 1 1) 7 [t.cells]) : FnV Tryz.prog 227 [.agg (ItemM.cells b).toArray, pB q 0] w (.bool (decide (b.id = t.id))) := by
  rw [cp q 7]
  refine FnV.of (n := 9) Tryz.func227 rfl rfl ?_; refine G.seq (G.region ?_); refine G.op (bE rfl rfl) rfl (fun bk2 _ => ?_); refine G.v (bb rfl) rfl (G.I (G.E (G.seq (G.region (G.v (be rfl) rfl (G.v (bf 0 rfl rfl rfl) rfl (G.v (bo rfl) rfl ?_))))))); refine G.v (bi rfl (by exact Rd.stays (by assumption)) rfl rfl) rfl ?_; refine G.v (bQ rfl rfl) rfl (G.v (bb rfl) rfl (G.I (G.E (G.ret ?_))))
  exact G.U rfl rfl rfl
theorem namesOk3_any {r : ReqM} {pv tv iv : Value} (b : PairM) {q : Nat} (w : World) (h : Rd w (.slice (some ⟨q, 0, none⟩) 1 1) 10 [r.cells pv tv iv]) : FnV Tryz.prog 228 [.agg (PairM.cells b).toArray, pB q 0] w (.bool (!pairIn r b)) := by
  rw [cp q 10]
  refine FnV.of (n := 16) Tryz.func228 rfl rfl ?_; refine G.seq (G.region ?_); refine G.op (bE rfl rfl) rfl (fun bk2 _ => ?_); refine G.v (bb rfl) rfl (G.I (G.E (G.seq (G.region (G.v (be rfl) rfl (G.v (bf 0 rfl rfl rfl) rfl (G.v (bo rfl) rfl ?_))))))); refine G.v (bi rfl (by exact Rd.stays (by assumption)) rfl rfl) rfl ?_; refine G.v (cu rfl rfl) rfl (G.v (ba rfl) rfl ?_)
  (with_reducible refine G.gP rfl rfl (fun hg => ?_) (fun hg => ?_)) <;> (try exact Bool.noConfusion hg) <;> (first | (refine G.gY rfl rfl ?_; (refine G.v (be rfl) rfl ?_)) | refine G.gN rfl rfl rfl ?_)
  all_goals ((first | (refine G.gY rfl rfl ?_; refine G.v (bf 0 rfl rfl rfl) rfl ?_) | refine G.gN rfl rfl rfl ?_))
  all_goals ((first | (refine G.gY rfl rfl ?_; (refine G.v (bo rfl) rfl ?_)) | refine G.gN rfl rfl rfl ?_))
  all_goals ((first | (refine G.gY rfl rfl ?_; (refine G.v (bi rfl (by exact Rd.stays (by assumption)) rfl rfl) rfl ?_)) | refine G.gN rfl rfl rfl ?_))
  all_goals ((first | (refine G.gY rfl rfl ?_; refine G.v (cu rfl rfl) rfl ?_) | refine G.gN rfl rfl rfl ?_))
  all_goals ((first | refine G.v (bk rfl rfl) rfl ?_ | refine G.v (bm rfl rfl) rfl ?_))
  all_goals (refine G.v (bb rfl) rfl ?_)
  all_goals
   refine G.I (G.E (G.ret ?_)); refine G.U rfl rfl (congrArg Value.bool ?_); simp_all [pairIn] <;> (intros; omega)
theorem namesOk_any {r : ReqM} {pv tv iv : Value} (w : World) (h : Rd w pv 2 (r.pairs.map PairM.cells)) (h2 : Rd w tv 7 (r.types.map TypeM.cells)) (h3 : Rd w iv 7 (r.items.map ItemM.cells)) :
    FnV Tryz.prog 171 [.agg (r.cells pv tv iv).toArray] w (.bool (namesM r)) := by
  have hle := h.le_map
  have hle2 := h2.le_map
  have hle3 := h3.le_map
  have hov1 : pv.oneCell' = true := h.one_
  have hov2 : tv.oneCell' = true := h2.one_
  have hov3 : iv.oneCell' = true := h3.one_
  have hln2 : (r.types.map TypeM.cells).length = r.types.length := by simp
  have hln3 : (r.items.map ItemM.cells).length = r.items.length := by simp
  refine FnV.of (n := 59) Tryz.func171 rfl rfl ?_; refine G.seq (G.region ?_); refine G.op (bE rfl rfl) rfl (fun bk1 _ => ?_); refine G.v (bb rfl) rfl (G.I (G.E (G.seq (G.seq (G.region (G.v (be rfl) rfl (G.v (bf 0 rfl rfl rfl) rfl ?_))))))); refine G.v (bz rfl (by exact Rd.stays (by assumption))) rfl ?_; refine G.v (ba rfl) rfl (G.I (G.E (G.block ?_))); refine G.Y (ι := Nat) (ks := [1, 10, 11]) (fun k => [(12, .int .i64 k)]) (fun _ => []) (fun k => k ≤ r.types.length ∧ (List.range k).all (fun i => !dupAt TypeM.id r.types i) = true) (fun k => r.types.length - k) 0 (.cons rfl (.cons rfl (.cons rfl (.nil)))) rfl ?_ ?_ ?_
  exact ⟨Nat.zero_le _, rfl⟩
  exact ⟨rfl, trivial⟩
  rintro k ⟨hk, ht⟩
  by_cases hlt : k < r.types.length
  case' pos => (obtain ⟨b, hb⟩ := bn hlt; have he := bt hb TypeM.cells)
  case' neg => (have hall : (List.range r.types.length).all (fun i => !dupAt TypeM.id r.types i) = true := (by rwa [show k = r.types.length by omega] at ht))
  all_goals
   refine G.seq (G.region (G.v (br rfl rfl) rfl (G.I (G.E (G.seq ?_))))); refine G.cond rfl (fun hc => ?_) (fun hc => ?_)
   · all_goals
      replace hc := of_decide_eq_true hc
      simp only [List.length_map] at hc
      try (exfalso; omega)
      all_goals
       refine G.skip (G.E (G.seq (G.block (G.seq (G.region (G.v (ba rfl) rfl ?_)))))); refine G.v (bg rfl rfl (by exact Rd.stays (by assumption)) rfl (by assumption)) rfl ?_; refine G.v (bN rfl (by exact Rd.stays (by assumption)) (by assumption) rfl) rfl ?_; refine G.op (bu) rfl (fun bk4 _ => ?_); refine G.v (bb rfl) rfl ?_; refine G.bk (bL rfl rfl rfl rfl rfl rfl (.zero (.cons (.cons (.cons (.cons (.cons (.cons (.cons .nil))))))))) (fun _ _ => ?_); refine G.I (G.E (G.seq (G.region (G.v (be rfl) rfl (G.v (bf 1 rfl rfl rfl) rfl (G.v (ba rfl) rfl ?_)))))); refine G.v (dp rfl rfl (by exact Rd.stays (by assumption)) (by omega)) rfl ?_; refine G.v (bY rfl rfl) rfl ?_; refine G.op (bh rfl rfl (fun w hh => containsType_any (l := r.types.take k) w (Rd.subH (Rd.stays h2 _ hh) hk) (fun w' j c hw hb => namesOk1_any b c w' (Rd.stays (by exact Rd.bb 0 rfl rfl w hh) w' hw)))) rfl (fun _ _ => ?_); refine G.I (G.E ?_); refine G.cond rfl (fun hc => ?_) (fun hc => ?_)
       · all_goals
          all_goals
           refine G.seq (G.region (G.v (bb rfl) rfl (G.I (G.E (G.ret (G.bq (G.O (G.O (G.bq (G.O ?_)))))))))); refine G.U rfl rfl (congrArg Value.bool ?_); rw [namesM, range_no hlt (by rw [d7 hb]; exact hc)]; simp; done
       · all_goals
          all_goals
           refine G.skip (G.bc (G.E (G.region ?_))); refine G.v (bp rfl rfl (by omega)) rfl ?_; refine G.v (ba rfl) rfl (G.I ?_); refine G.V (k + 1) 1 rfl (.cons rfl (.cons rfl (.cons rfl (.nil)))) ?_ ?_ ?_
           exact ⟨rfl, trivial⟩
           exact ⟨hlt, da ht (by rw [d7 hb, Bool.not_eq_true']; exact (by simpa using hc))⟩
           omega
   · all_goals
      replace hc := of_decide_eq_false hc
      simp only [List.length_map] at hc
      try (exfalso; omega)
      all_goals
       refine G.exit (G.L (G.L (G.bn (G.E (G.seq (G.seq (G.region (G.v (be rfl) rfl (G.v (bf 0 rfl rfl rfl) rfl ?_))))))))); refine G.v (bz rfl (by exact Rd.stays (by assumption))) rfl ?_; refine G.v (ba rfl) rfl (G.I (G.E (G.block ?_))); refine G.Y (ι := Nat) (ks := [1, 25, 26]) (fun k => [(27, .int .i64 k)]) (fun _ => []) (fun k => k ≤ r.items.length ∧ (List.range k).all (fun i => !itemBad r i) = true) (fun k => r.items.length - k) 0 (.cons rfl (.cons rfl (.cons rfl (.nil)))) rfl ?_ ?_ ?_
       exact ⟨Nat.zero_le _, rfl⟩
       exact ⟨rfl, trivial⟩
       rintro k1 ⟨hk1, ht1⟩
       by_cases hlt1 : k1 < r.items.length
       case' pos => (obtain ⟨b1, hb1⟩ := bn hlt1; have he := bt hb1 ItemM.cells)
       case' neg => (have hall1 : (List.range r.items.length).all (fun i => !itemBad r i) = true := (by rwa [show k1 = r.items.length by omega] at ht1))
       all_goals
        refine G.seq (G.region (G.v (br rfl rfl) rfl (G.I (G.E (G.seq ?_))))); refine G.cond rfl (fun hc => ?_) (fun hc => ?_)
        · all_goals
           replace hc := of_decide_eq_true hc
           simp only [List.length_map] at hc
           try (exfalso; omega)
           all_goals
            refine G.skip (G.E (G.seq (G.block (G.seq (G.region (G.v (ba rfl) rfl ?_)))))); refine G.v (bg rfl rfl (by exact Rd.stays (by assumption)) rfl (by assumption)) rfl ?_; refine G.v (bN rfl (by exact Rd.stays (by assumption)) (by assumption) rfl) rfl ?_; refine G.op (bu) rfl (fun bk6 _ => ?_); refine G.v (bb rfl) rfl ?_; refine G.bk (bL rfl rfl rfl rfl rfl rfl (.zero (.cons (.cons (.cons (.cons (.cons (.cons (.cons .nil))))))))) (fun _ _ => ?_); refine G.I (G.E (G.seq (G.region (G.v (be rfl) rfl (G.v (bf 0 rfl rfl rfl) rfl (G.v (be rfl) rfl (G.v (bf 1 rfl rfl rfl) rfl (G.v (cu rfl rfl) rfl (G.v (ba rfl) rfl ?_)))))))))
            all_goals (((with_reducible refine G.gP rfl rfl (fun hg => ?_) (fun hg => ?_)) <;> (try exact Bool.noConfusion hg) <;> (first | (refine G.gY rfl rfl ?_; (refine G.v (be rfl) rfl ?_)) | refine G.gN rfl rfl rfl ?_)))
            all_goals ((first | (refine G.gY rfl rfl ?_; (refine G.v (bf 1 rfl rfl rfl) rfl ?_)) | refine G.gN rfl rfl rfl ?_))
            all_goals ((first | (refine G.gY rfl rfl ?_; refine G.v (ba rfl) rfl ?_) | refine G.gN rfl rfl rfl ?_))
            all_goals ((first | (refine G.gY rfl rfl ?_; refine G.v (dp rfl rfl (by exact Rd.stays (by assumption)) (by omega)) rfl ?_) | refine G.gN rfl rfl rfl ?_))
            all_goals ((first | (refine G.gY rfl rfl ?_; refine G.v (bY rfl rfl) rfl ?_) | refine G.gN rfl rfl rfl ?_))
            all_goals ((first | (refine G.gY rfl rfl ?_; refine G.op (bh rfl rfl (fun w hh => containsItem_any (l := r.items.take k1) w (Rd.subH (Rd.stays h3 _ hh) hk1) (fun w' j c hw hb => namesOk2_any b1 c w' (Rd.stays (by exact Rd.bb 0 rfl rfl w hh) w' hw)))) rfl (fun _ _ => ?_)) | refine G.gN rfl rfl rfl ?_))
            all_goals ((first | refine G.v (bk rfl rfl) rfl ?_ | refine G.v (bm rfl rfl) rfl ?_))
            all_goals
             refine G.I (G.E ?_); refine G.cond rfl (fun hc => ?_) (fun hc => ?_)
             · all_goals
                try simp only [List.length_map] at hc
                all_goals
                 refine G.seq (G.region (G.v (bb rfl) rfl (G.I (G.E (G.ret (G.bq (G.O (G.O (G.bq (G.O ?_)))))))))); refine G.U rfl rfl (congrArg Value.bool ?_); rw [namesM, hall, range_no hlt1 (by rw [item_bad hb1, d7 hb1]; simp only [Bool.or_eq_true]; first | exact .inl hg | exact .inr (by simpa using hc))]; simp; done
             · try exact Bool.noConfusion hc
               all_goals
                all_goals
                 refine G.skip (G.bc (G.E (G.region ?_))); refine G.v (bp rfl rfl (by omega)) rfl ?_; refine G.v (ba rfl) rfl (G.I ?_); refine G.V (k1 + 1) 1 rfl (.cons rfl (.cons rfl (.cons rfl (.nil)))) ?_ ?_ ?_
                 exact ⟨rfl, trivial⟩
                 exact ⟨hlt1, da ht1 (by rw [item_bad hb1, d7 hb1, Bool.not_eq_true', Bool.or_eq_false_iff]; exact ⟨(by exact hg), (by simpa using hc)⟩)⟩
                 omega
        · all_goals
           replace hc := of_decide_eq_false hc
           simp only [List.length_map] at hc
           try (exfalso; omega)
           all_goals
            refine G.exit (G.L (G.L (G.bn (G.E (G.seq (G.region (G.v (bj 0 rfl rfl rfl) rfl ?_))))))); refine G.op (bh rfl rfl (fun w hh => masterOf_any w (by exact Rd.stays (by assumption) _ hh))) rfl (fun _ _ => ?_); refine G.v (ba rfl) rfl (G.v (bC rfl rfl) rfl (G.v (bC rfl rfl) rfl ?_)); refine G.op (bu) rfl (fun bk7 _ => ?_); refine G.bk (bL rfl rfl rfl rfl rfl rfl (.zero (.cons (.cons (.cons (.cons (.cons (.cons (.cons .nil))))))))) (fun _ _ => ?_); refine G.v (bb rfl) rfl (G.I (G.E (G.seq (G.region (G.v (ba rfl) rfl (G.v (ba rfl) rfl ?_))))))
            all_goals (((with_reducible refine G.gP rfl rfl (fun hg => ?_) (fun hg => ?_)) <;> (try exact Bool.noConfusion hg) <;> (first | (refine G.gY rfl rfl ?_; (refine G.v (be rfl) rfl ?_)) | refine G.gN rfl rfl rfl ?_)))
            all_goals ((first | (refine G.gY rfl rfl ?_; (refine G.v (bf 1 rfl rfl rfl) rfl ?_)) | refine G.gN rfl rfl rfl ?_))
            all_goals ((first | (refine G.gY rfl rfl ?_; refine G.v (bY rfl rfl) rfl ?_) | refine G.gN rfl rfl rfl ?_))
            all_goals ((first | (refine G.gY rfl rfl ?_; refine G.op (bh rfl rfl (fun w hh => (containsPair_any w (Rd.stays h _ hh) (fun w' j c hw hb => namesOk3_any (r := r) (pv := pv) (tv := tv) (iv := iv) c w' (Rd.stays (by exact Rd.bb 1 rfl (ReqM.good hov1 hov2 hov3) w hh) w' hw))).mono (congrArg Value.bool any_not))) rfl (fun _ _ => ?_)) | refine G.gN rfl rfl rfl ?_))
            all_goals ((first | (refine G.gY rfl rfl ?_; refine G.v (bF rfl) rfl ?_) | refine G.gN rfl rfl rfl ?_))
            all_goals ((first | refine G.v (bk rfl rfl) rfl ?_ | refine G.v (bm rfl rfl) rfl ?_))
            all_goals (refine G.v (bb rfl) rfl ?_)
            all_goals
             refine G.I (G.E (G.ret ?_)); refine G.U rfl rfl (congrArg Value.bool ?_); rw [namesM, hall, hall1]; simp_all; done
theorem pairIn_no {r : ReqM} {p : PairM} (h : p.a ≥ r.classes ∨ p.b ≥ r.classes) : pairIn r p = false := by
  rw [pairIn]; rcases h with h | h <;> simp [h]
theorem pairIn_yes {r : ReqM} {p : PairM} (h : ¬ p.a ≥ r.classes) (h2 : ¬ p.b ≥ r.classes) : pairIn r p = true := by
  rw [pairIn, decide_eq_false h, decide_eq_false h2]; rfl
theorem snamesOk_any {r : ReqM} {pv tv iv : Value} (w : World) (h : Rd w pv 2 (r.pairs.map PairM.cells)) (h2 : Rd w tv 7 (r.types.map TypeM.cells)) (h3 : Rd w iv 7 (r.items.map ItemM.cells)) :
    FnV Tryz.prog 84 [.agg (r.cells pv tv iv).toArray] w (.bool (namesM r)) := by
  have hle := h.le_map
  have hle2 := h2.le_map
  have hle3 := h3.le_map
  refine FnV.of (n := 102) Tryz.func84 rfl rfl ?_; refine G.seq (G.region ?_); refine G.op (bE rfl rfl) rfl (fun bk1 _ => ?_); refine G.v (bb rfl) rfl (G.I (G.E (G.seq (G.seq (G.region (G.v (bb rfl) rfl (G.I (G.E (G.block ?_))))))))); refine G.Y (ι := Nat) (ks := [1]) (fun k => [(3, .int .i64 k)]) (fun _ => []) (fun k => k ≤ r.types.length ∧ (List.range k).all (fun i => !dupAt TypeM.id r.types i) = true) (fun k => r.types.length - k) 0 (.cons rfl (.nil)) rfl ?_ ?_ ?_
  exact ⟨Nat.zero_le _, rfl⟩
  exact ⟨rfl, trivial⟩
  rintro k ⟨hk, ht⟩
  by_cases hlt : k < r.types.length
  case' pos => (obtain ⟨b, hb⟩ := bn hlt; have he := bt hb TypeM.cells)
  case' neg => (have hall : (List.range r.types.length).all (fun i => !dupAt TypeM.id r.types i) = true := (by rwa [show k = r.types.length by omega] at ht))
  all_goals
   refine G.seq (G.seq (G.region (G.v (ba rfl) rfl (G.v (be rfl) rfl (G.v (bf 0 rfl rfl rfl) rfl ?_))))); refine G.v (bz rfl (by exact Rd.stays (by assumption))) rfl ?_; refine G.v (br rfl rfl) rfl (G.I (G.E ?_)); refine G.cond rfl (fun hc => ?_) (fun hc => ?_)
   · all_goals
      replace hc := of_decide_eq_true hc
      simp only [List.length_map] at hc
      try (exfalso; omega)
      all_goals
       refine G.skip (G.E (G.seq (G.block (G.seq (G.region (G.v (bb rfl) rfl (G.I (G.E (G.block ?_))))))))); refine G.Y (ι := Nat) (ks := [1, 3]) (fun k => [(4, .int .i64 k)]) (fun _ => []) (fun j => j ≤ k ∧ (r.types.take j).any (fun q => decide (q.id = b.id)) = false) (fun j => k - j) 0 (.cons rfl (.cons rfl (.nil))) rfl ?_ ?_ ?_
       exact ⟨Nat.zero_le _, rfl⟩
       exact ⟨rfl, trivial⟩
       rintro j ⟨hj, htj⟩
       by_cases hltj : j < k
       case' pos => (obtain ⟨q, hq⟩ := bn (l := r.types) (k := j) (by omega); have he2 := bt hq TypeM.cells)
       all_goals
        refine G.seq (G.seq (G.region (G.v (ba rfl) rfl (G.v (ba rfl) rfl (G.v (br rfl rfl) rfl (G.I (G.E ?_))))))); refine G.cond rfl (fun hc => ?_) (fun hc => ?_)
        · all_goals
           replace hc := of_decide_eq_true hc
           try (exfalso; omega)
           all_goals
            refine G.skip (G.E (G.seq (G.block (G.seq ?_)))); refine G.ba [] ?_; refine GE.q 0 rfl (by as_aux_lemma => kernel_rfl) rfl (bc (be rfl)) rfl ?_; refine GE.q 1 rfl (by as_aux_lemma => kernel_rfl) rfl (bc (bf 0 rfl rfl rfl)) rfl ?_; refine GE.q 2 rfl (by as_aux_lemma => kernel_rfl) rfl (bc (ba rfl)) rfl ?_; refine GE.q 3 rfl (by as_aux_lemma => kernel_rfl) rfl (bc (bg rfl rfl (by exact Rd.stays (by assumption)) rfl (by exact he))) rfl ?_; refine GE.q 4 rfl (by as_aux_lemma => kernel_rfl) rfl (bc (bo rfl)) rfl ?_; refine GE.q 5 rfl (by as_aux_lemma => kernel_rfl) rfl (bc (bi rfl (by exact Rd.stays (by assumption)) (by exact he) rfl)) rfl ?_; refine GE.q 6 rfl (by as_aux_lemma => kernel_rfl) rfl (bc (be rfl)) rfl ?_; refine GE.q 7 rfl (by as_aux_lemma => kernel_rfl) rfl (bc (bf 0 rfl rfl rfl)) rfl ?_; refine GE.V 8 (by as_aux_lemma => kernel_rfl) rfl rfl (bd (ba rfl)) rfl (fun _ _ h => by exact h) (fun _ _ => ?_); refine GE.V 9 (by as_aux_lemma => kernel_rfl) rfl rfl (bd (bg rfl rfl (by exact Rd.stays (by assumption)) rfl (by exact he2))) rfl (fun _ _ h => by exact h) (fun _ _ => ?_); refine GE.V 10 (by as_aux_lemma => kernel_rfl) rfl rfl (bd (bo rfl)) rfl (fun _ _ h => by exact h) (fun _ _ => ?_)
            refine GE.V 11 (by as_aux_lemma => kernel_rfl) rfl rfl (bd (bi rfl (by exact Rd.stays (by assumption)) (by exact he2) rfl)) rfl (fun _ _ h => by exact h) (fun _ _ => ?_); refine GE.V 12 (by as_aux_lemma => kernel_rfl) rfl rfl (bd (bQ rfl rfl)) rfl (fun _ _ h => by exact h) (fun _ _ => ?_); refine GE.E (by as_aux_lemma => kernel_rfl) ?_; refine G.E ?_; refine G.cond rfl (fun hc => ?_) (fun hc => ?_)
            · all_goals
               replace hc := of_decide_eq_true hc
               all_goals
                refine G.seq (G.region (G.v (bb rfl) rfl (G.I (G.E (G.ret (G.bq (G.O (G.O (G.bq (G.bq (G.O ?_))))))))))); refine G.O (G.bq (G.O ?_)); refine G.U rfl rfl (congrArg Value.bool ?_); rw [namesM, range_no hlt (by rw [d7 hb]; exact List.any_eq_true.2 ⟨q, List.mem_of_getElem? ((List.getElem?_take_of_lt hltj).trans hq), decide_eq_true hc.symm⟩)]; simp; done
            · all_goals
               replace hc := of_decide_eq_false hc
               all_goals
                refine G.skip (G.bc (G.E (G.region (G.v (ba rfl) rfl ?_)))); refine G.v (bp rfl rfl (by omega)) rfl ?_; refine G.v (bb rfl) rfl (G.I ?_); refine G.V (j + 1) 0 rfl (.cons rfl (.cons rfl (.nil))) ?_ ?_ ?_
                exact ⟨rfl, trivial⟩
                exact ⟨hltj, cc htj hq (by simp only [decide_eq_false_iff_not]; exact fun e => hc e.symm)⟩
                omega
        · all_goals
           replace hc := of_decide_eq_false hc
           try (exfalso; omega)
           all_goals
            refine G.exit (G.L (G.L (G.bn (G.bc (G.E (G.region (G.v (ba rfl) rfl ?_))))))); refine G.v (bp rfl rfl (by omega)) rfl ?_; refine G.v (bb rfl) rfl (G.I ?_); refine G.V (k + 1) 0 rfl (.cons rfl (.nil)) ?_ ?_ ?_
            exact ⟨rfl, trivial⟩
            exact ⟨hlt, da ht (by rw [d7 hb, Bool.not_eq_true']; exact (by rwa [show j = k by omega] at htj))⟩
            omega
   · all_goals
      replace hc := of_decide_eq_false hc
      simp only [List.length_map] at hc
      try (exfalso; omega)
      all_goals
       refine G.exit (G.L (G.L (G.bn (G.E (G.seq (G.seq (G.region (G.v (bb rfl) rfl (G.I (G.E (G.block ?_))))))))))); refine G.Y (ι := Nat) (ks := [1]) (fun k => [(5, .int .i64 k)]) (fun _ => []) (fun k => k ≤ r.items.length ∧ (List.range k).all (fun i => !itemBad r i) = true) (fun k => r.items.length - k) 0 (.cons rfl (.nil)) rfl ?_ ?_ ?_
       exact ⟨Nat.zero_le _, rfl⟩
       exact ⟨rfl, trivial⟩
       rintro k1 ⟨hk1, ht1⟩
       by_cases hlt1 : k1 < r.items.length
       case' pos => (obtain ⟨b1, hb1⟩ := bn hlt1; have he := bt hb1 ItemM.cells)
       case' neg => (have hall1 : (List.range r.items.length).all (fun i => !itemBad r i) = true := (by rwa [show k1 = r.items.length by omega] at ht1))
       all_goals
        refine G.seq (G.seq (G.region (G.v (ba rfl) rfl (G.v (be rfl) rfl (G.v (bf 0 rfl rfl rfl) rfl ?_))))); refine G.v (bz rfl (by exact Rd.stays (by assumption))) rfl ?_; refine G.v (br rfl rfl) rfl (G.I (G.E ?_)); refine G.cond rfl (fun hc => ?_) (fun hc => ?_)
        · all_goals
           replace hc := of_decide_eq_true hc
           simp only [List.length_map] at hc
           try (exfalso; omega)
           all_goals
            refine G.skip (G.E (G.seq (G.block (G.seq (G.seq ?_))))); refine G.ba [] ?_; refine GE.q 0 rfl (by as_aux_lemma => kernel_rfl) rfl (bc (be rfl)) rfl ?_; refine GE.q 1 rfl (by as_aux_lemma => kernel_rfl) rfl (bc (bf 0 rfl rfl rfl)) rfl ?_; refine GE.q 2 rfl (by as_aux_lemma => kernel_rfl) rfl (bc (ba rfl)) rfl ?_; refine GE.q 3 rfl (by as_aux_lemma => kernel_rfl) rfl (bc (bg rfl rfl (by exact Rd.stays (by assumption)) rfl (by exact he))) rfl ?_; refine GE.q 4 rfl (by as_aux_lemma => kernel_rfl) rfl (bc (bo rfl)) rfl ?_; refine GE.q 5 rfl (by as_aux_lemma => kernel_rfl) rfl (bc (bi rfl (by exact Rd.stays (by assumption)) (by exact he) rfl)) rfl ?_; refine GE.V 6 (by as_aux_lemma => kernel_rfl) rfl rfl (bd (be rfl)) rfl (fun _ _ h => by exact h) (fun _ _ => ?_); refine GE.V 7 (by as_aux_lemma => kernel_rfl) rfl rfl (bd (bf 0 rfl rfl rfl)) rfl (fun _ _ h => by exact h) (fun _ _ => ?_); refine GE.V 8 (by as_aux_lemma => kernel_rfl) rfl rfl (bd (cu rfl rfl)) rfl (fun _ _ h => by exact h) (fun _ _ => ?_); refine GE.E (by as_aux_lemma => kernel_rfl) ?_; refine G.E ?_; refine G.cond rfl (fun hc => ?_) (fun hc => ?_)
            · all_goals
               replace hc := of_decide_eq_true hc
               all_goals
                refine G.seq (G.region (G.v (bb rfl) rfl (G.I (G.E (G.ret (G.O (G.bq (G.O (G.O (G.bq (G.O ?_))))))))))); refine G.U rfl rfl (congrArg Value.bool ?_); rw [namesM, hall, range_no hlt1 (by rw [item_bad hb1, decide_eq_true hc]; rfl)]; simp; done
            · all_goals
               replace hc := of_decide_eq_false hc
               all_goals
                have hcls := hc
                all_goals
                 refine G.skip (G.E (G.seq (G.region (G.v (bb rfl) rfl (G.I (G.E (G.block ?_))))))); refine G.Y (ι := Nat) (ks := [1, 5]) (fun k => [(6, .int .i64 k)]) (fun _ => []) (fun j => j ≤ k1 ∧ (r.items.take j).any (fun q => decide (q.id = b1.id)) = false) (fun j => k1 - j) 0 (.cons rfl (.cons rfl (.nil))) rfl ?_ ?_ ?_
                 exact ⟨Nat.zero_le _, rfl⟩
                 exact ⟨rfl, trivial⟩
                 rintro j1 ⟨hj1, htj1⟩
                 by_cases hltj1 : j1 < k1
                 case' pos => (obtain ⟨q1, hq1⟩ := bn (l := r.items) (k := j1) (by omega); have he2 := bt hq1 ItemM.cells)
                 all_goals
                  refine G.seq (G.seq (G.region (G.v (ba rfl) rfl (G.v (ba rfl) rfl (G.v (br rfl rfl) rfl (G.I (G.E ?_))))))); refine G.cond rfl (fun hc => ?_) (fun hc => ?_)
                  · all_goals
                     replace hc := of_decide_eq_true hc
                     try (exfalso; omega)
                     all_goals
                      refine G.skip (G.E (G.seq (G.block (G.seq ?_)))); refine G.ba [] ?_; refine GE.q 0 rfl (by as_aux_lemma => kernel_rfl) rfl (bc (be rfl)) rfl ?_; refine GE.q 1 rfl (by as_aux_lemma => kernel_rfl) rfl (bc (bf 0 rfl rfl rfl)) rfl ?_; refine GE.q 2 rfl (by as_aux_lemma => kernel_rfl) rfl (bc (ba rfl)) rfl ?_; refine GE.q 3 rfl (by as_aux_lemma => kernel_rfl) rfl (bc (bg rfl rfl (by exact Rd.stays (by assumption)) rfl (by exact he))) rfl ?_; refine GE.q 4 rfl (by as_aux_lemma => kernel_rfl) rfl (bc (bo rfl)) rfl ?_; refine GE.q 5 rfl (by as_aux_lemma => kernel_rfl) rfl (bc (bi rfl (by exact Rd.stays (by assumption)) (by exact he) rfl)) rfl ?_; refine GE.q 6 rfl (by as_aux_lemma => kernel_rfl) rfl (bc (be rfl)) rfl ?_; refine GE.q 7 rfl (by as_aux_lemma => kernel_rfl) rfl (bc (bf 0 rfl rfl rfl)) rfl ?_; refine GE.V 8 (by as_aux_lemma => kernel_rfl) rfl rfl (bd (ba rfl)) rfl (fun _ _ h => by exact h) (fun _ _ => ?_); refine GE.V 9 (by as_aux_lemma => kernel_rfl) rfl rfl (bd (bg rfl rfl (by exact Rd.stays (by assumption)) rfl (by exact he2))) rfl (fun _ _ h => by exact h) (fun _ _ => ?_); refine GE.V 10 (by as_aux_lemma => kernel_rfl) rfl rfl (bd (bo rfl)) rfl (fun _ _ h => by exact h) (fun _ _ => ?_)
                      refine GE.V 11 (by as_aux_lemma => kernel_rfl) rfl rfl (bd (bi rfl (by exact Rd.stays (by assumption)) (by exact he2) rfl)) rfl (fun _ _ h => by exact h) (fun _ _ => ?_); refine GE.V 12 (by as_aux_lemma => kernel_rfl) rfl rfl (bd (bQ rfl rfl)) rfl (fun _ _ h => by exact h) (fun _ _ => ?_); refine GE.E (by as_aux_lemma => kernel_rfl) ?_; refine G.E ?_; refine G.cond rfl (fun hc => ?_) (fun hc => ?_)
                      · all_goals
                         replace hc := of_decide_eq_true hc
                         all_goals
                          refine G.seq (G.region (G.v (bb rfl) rfl (G.I (G.E (G.ret (G.bq (G.O (G.O (G.bq (G.bq (G.O ?_))))))))))); refine G.O (G.bq (G.O ?_)); refine G.U rfl rfl (congrArg Value.bool ?_); rw [namesM, hall, range_no hlt1 (by rw [item_bad hb1, d7 hb1, (List.any_eq_true.2 ⟨q1, List.mem_of_getElem? ((List.getElem?_take_of_lt hltj1).trans hq1), decide_eq_true hc.symm⟩ : (r.items.take k1).any (fun q => decide (q.id = b1.id)) = true), Bool.or_true])]; simp; done
                      · all_goals
                         replace hc := of_decide_eq_false hc
                         all_goals
                          refine G.skip (G.bc (G.E (G.region (G.v (ba rfl) rfl ?_)))); refine G.v (bp rfl rfl (by omega)) rfl ?_; refine G.v (bb rfl) rfl (G.I ?_); refine G.V (j1 + 1) 0 rfl (.cons rfl (.cons rfl (.nil))) ?_ ?_ ?_
                          exact ⟨rfl, trivial⟩
                          exact ⟨hltj1, cc htj1 hq1 (by simp only [decide_eq_false_iff_not]; exact fun e => hc e.symm)⟩
                          omega
                  · all_goals
                     replace hc := of_decide_eq_false hc
                     try (exfalso; omega)
                     all_goals
                      refine G.exit (G.L (G.L (G.bn (G.bc (G.E (G.region (G.v (ba rfl) rfl ?_))))))); refine G.v (bp rfl rfl (by omega)) rfl ?_; refine G.v (bb rfl) rfl (G.I ?_); refine G.V (k1 + 1) 0 rfl (.cons rfl (.nil)) ?_ ?_ ?_
                      exact ⟨rfl, trivial⟩
                      exact ⟨hlt1, da ht1 (by rw [item_bad hb1, d7 hb1, Bool.not_eq_true', Bool.or_eq_false_iff]; exact ⟨decide_eq_false hcls, (by rwa [show j1 = k1 by omega] at htj1)⟩)⟩
                      omega
        · all_goals
           replace hc := of_decide_eq_false hc
           simp only [List.length_map] at hc
           try (exfalso; omega)
           all_goals
            refine G.exit (G.L (G.L (G.bn (G.E (G.seq (G.seq (G.region (G.v (bb rfl) rfl (G.I (G.E (G.block ?_))))))))))); refine G.Y (ι := Nat) (ks := [1]) (fun k => [(7, .int .i64 k)]) (fun _ => []) (fun k => k ≤ r.pairs.length ∧ (r.pairs.take k).all (pairIn r) = true) (fun k => r.pairs.length - k) 0 (.cons rfl (.nil)) rfl ?_ ?_ ?_
            exact ⟨Nat.zero_le _, rfl⟩
            exact ⟨rfl, trivial⟩
            rintro k4 ⟨hk4, ht4⟩
            by_cases hlt4 : k4 < r.pairs.length
            case' pos => (obtain ⟨b4, hb4⟩ := bn hlt4; have he := bt hb4 PairM.cells)
            case' neg => (have hall4 := d5 ht4 hlt4)
            all_goals
             refine G.seq (G.seq (G.region (G.v (ba rfl) rfl (G.v (be rfl) rfl (G.v (bf 0 rfl rfl rfl) rfl ?_))))); refine G.v (bz rfl (by exact Rd.stays (by assumption))) rfl ?_; refine G.v (br rfl rfl) rfl (G.I (G.E ?_)); refine G.cond rfl (fun hc => ?_) (fun hc => ?_)
             · all_goals
                replace hc := of_decide_eq_true hc
                simp only [List.length_map] at hc
                try (exfalso; omega)
                all_goals
                 refine G.skip (G.E (G.seq (G.block (G.seq ?_)))); refine G.ba [] ?_; refine GE.q 0 rfl (by as_aux_lemma => kernel_rfl) rfl (bc (be rfl)) rfl ?_; refine GE.q 1 rfl (by as_aux_lemma => kernel_rfl) rfl (bc (bf 0 rfl rfl rfl)) rfl ?_; refine GE.q 2 rfl (by as_aux_lemma => kernel_rfl) rfl (bc (ba rfl)) rfl ?_; refine GE.q 3 rfl (by as_aux_lemma => kernel_rfl) rfl (bc (bg rfl rfl (by exact Rd.stays (by assumption)) rfl (by exact he))) rfl ?_; refine GE.q 4 rfl (by as_aux_lemma => kernel_rfl) rfl (bc (bo rfl)) rfl ?_; refine GE.q 5 rfl (by as_aux_lemma => kernel_rfl) rfl (bc (bi rfl (by exact Rd.stays (by assumption)) (by exact he) rfl)) rfl ?_; refine GE.V 6 (by as_aux_lemma => kernel_rfl) rfl rfl (bd (be rfl)) rfl (fun _ _ h => by exact h) (fun _ _ => ?_); refine GE.V 7 (by as_aux_lemma => kernel_rfl) rfl rfl (bd (bf 0 rfl rfl rfl)) rfl (fun _ _ h => by exact h) (fun _ _ => ?_); refine GE.V 8 (by as_aux_lemma => kernel_rfl) rfl rfl (bd (cu rfl rfl)) rfl (fun _ _ h => by exact h) (fun _ _ => ?_); refine GE.V 9 (by as_aux_lemma => kernel_rfl) rfl rfl (bd (ba rfl)) rfl (fun _ _ h => by exact h) (fun _ _ => ?_)
                 all_goals (((with_reducible refine GE.part (t := 85) rfl (fun hg => ?_) (fun hg => ?_)) <;> (try exact Bool.noConfusion hg) <;> (first | (refine GE.q 10 rfl (by as_aux_lemma => kernel_rfl) rfl (bc (be rfl)) rfl ?_) | refine GE.O 10 rfl (by as_aux_lemma => kernel_rfl) rfl rfl ?_)))
                 all_goals ((first | (refine GE.q 11 rfl (by as_aux_lemma => kernel_rfl) rfl (bc (bf 0 rfl rfl rfl)) rfl ?_) | refine GE.O 11 rfl (by as_aux_lemma => kernel_rfl) rfl rfl ?_))
                 all_goals ((first | refine GE.q 12 rfl (by as_aux_lemma => kernel_rfl) rfl (bc (ba rfl)) rfl ?_ | refine GE.O 12 rfl (by as_aux_lemma => kernel_rfl) rfl rfl ?_))
                 all_goals ((first | (refine GE.q 13 rfl (by as_aux_lemma => kernel_rfl) rfl (bc (bg rfl rfl (by exact Rd.stays (by assumption)) rfl (by exact he))) rfl ?_) | refine GE.O 13 rfl (by as_aux_lemma => kernel_rfl) rfl rfl ?_))
                 all_goals ((first | (refine GE.q 14 rfl (by as_aux_lemma => kernel_rfl) rfl (bc (bo rfl)) rfl ?_) | refine GE.O 14 rfl (by as_aux_lemma => kernel_rfl) rfl rfl ?_))
                 all_goals ((first | refine GE.q 15 rfl (by as_aux_lemma => kernel_rfl) rfl (bc (bi rfl (by exact Rd.stays (by assumption)) (by exact he) rfl)) rfl ?_ | refine GE.O 15 rfl (by as_aux_lemma => kernel_rfl) rfl rfl ?_))
                 all_goals ((first | (refine GE.q 16 rfl (by as_aux_lemma => kernel_rfl) rfl (bc (be rfl)) rfl ?_) | refine GE.O 16 rfl (by as_aux_lemma => kernel_rfl) rfl rfl ?_))
                 all_goals ((first | (refine GE.q 17 rfl (by as_aux_lemma => kernel_rfl) rfl (bc (bf 0 rfl rfl rfl)) rfl ?_) | refine GE.O 17 rfl (by as_aux_lemma => kernel_rfl) rfl rfl ?_))
                 all_goals ((first | refine GE.q 18 rfl (by as_aux_lemma => kernel_rfl) rfl (bc (cu rfl rfl)) rfl ?_ | refine GE.O 18 rfl (by as_aux_lemma => kernel_rfl) rfl rfl ?_))
                 all_goals ((first | refine GE.V 19 (by as_aux_lemma => kernel_rfl) rfl rfl (bd (bk rfl rfl)) rfl (fun _ _ h => by exact h) (fun _ _ => ?_) | refine GE.V 19 (by as_aux_lemma => kernel_rfl) rfl rfl (bd (bm rfl rfl)) rfl (fun _ _ h => by exact h) (fun _ _ => ?_)))
                 all_goals
                  refine GE.E (by as_aux_lemma => kernel_rfl) ?_; refine G.E ?_; refine G.cond rfl (fun hc => ?_) (fun hc => ?_)
                  · all_goals
                     try replace hc := of_decide_eq_true hc
                     try simp only [List.length_map] at hc
                     all_goals
                      refine G.seq (G.region (G.v (bb rfl) rfl (G.I (G.E (G.ret (G.bq (G.O (G.O (G.bq (G.O ?_)))))))))); refine G.U rfl rfl (congrArg Value.bool ?_); rw [namesM, all_no hb4 (pairIn_no (by first | exact .inr hc | exact .inl (of_decide_eq_true hg)))]; simp; done
                  · try exact Bool.noConfusion hc
                    all_goals
                     replace hc := of_decide_eq_false hc
                     all_goals
                      refine G.skip (G.bc (G.E (G.region (G.v (ba rfl) rfl ?_)))); refine G.v (bp rfl rfl (by omega)) rfl ?_; refine G.v (bb rfl) rfl (G.I ?_); refine G.V (k4 + 1) 0 rfl (.cons rfl (.nil)) ?_ ?_ ?_
                      exact ⟨rfl, trivial⟩
                      exact ⟨hlt4, dG ht4 hb4 (pairIn_yes (by simp_all; try omega) (by simp_all; try omega))⟩
                      omega
             · all_goals
                replace hc := of_decide_eq_false hc
                simp only [List.length_map] at hc
                try (exfalso; omega)
                all_goals
                 refine G.exit (G.L (G.L (G.bn (G.E (G.seq (G.region (G.v (bj 0 rfl rfl rfl) rfl ?_))))))); refine G.op (bh rfl rfl (fun w hh => cX w (by exact Rd.stays (by assumption) _ hh))) rfl (fun _ _ => ?_); refine G.v (ba rfl) rfl (G.v (bC rfl rfl) rfl (G.v (bC rfl rfl) rfl ?_)); refine G.op (bu) rfl (fun bk8 _ => ?_); refine G.bk (bL rfl rfl rfl rfl rfl rfl (.zero (.cons (.cons (.cons (.cons (.cons (.cons (.cons .nil))))))))) (fun _ _ => ?_); refine G.v (bb rfl) rfl (G.I (G.E (G.seq (G.region (G.v (ba rfl) rfl (G.v (bb rfl) rfl (G.I (G.E (G.ret ?_))))))))); refine G.U rfl rfl (congrArg Value.bool ?_); rw [namesM, hall, hall1, hall4]; simp; done
end Go.Proofs.YtglpgohilfoecaaGreat
