/-
  Sorting of places by keys: no program is in sight here.
-/
import Derived.Test.YtpmphkcibiimcaaGreatMarks
import Derived.Test.YtpmphkcibiimcaaGreatBits
namespace Go.Proofs.YtpmphkcibiimcaaGreat
open Go.RowKit
def rowF (n : Nat) (f : Nat → Nat) : List (List Value) := (List.range n).map fun j => icell (f j : Int)
def upd (f : Nat → Nat) (k z : Nat) : Nat → Nat := fun j => if j = k then z else f j
theorem rowF_len (n : Nat) (f : Nat → Nat) : (rowF n f).length = n := by simp [rowF]
theorem rowF_get {n k : Nat} {f : Nat → Nat} (h : k < n) : (rowF n f)[k]? = some (icell (f k : Int)) := by
  simp [rowF, h]
theorem rowF_set {n k z : Nat} {f : Nat → Nat} : (rowF n f).set k (icell (z : Int)) = rowF n (upd f k z) := by
  apply List.ext_getElem?
  intro j
  rw [List.getElem?_set]
  by_cases hj : j < n
  · rw [rowF_get (f := upd f k z) hj]
    by_cases h : k = j
    · subst h; simp [rowF_len, hj, upd]
    · rw [if_neg h, rowF_get hj]; simp [upd, Ne.symm h]
  · rw [List.getElem?_eq_none (l := rowF n (upd f k z)) (by rw [rowF_len]; omega), List.getElem?_eq_none (l := rowF n f) (by rw [rowF_len]; omega), rowF_len]
    split
    · rw [if_neg (by omega)]
    · rfl
theorem rowF_congr {n : Nat} {f g : Nat → Nat} (h : ∀ j, j < n → f j = g j) : rowF n f = rowF n g := by
  simp only [rowF]
  apply List.map_congr_left
  intro j hj
  rw [h j (List.mem_range.1 hj)]
/-- Two stretches change places. -/
def swapF (f : Nat → Nat) (a b k : Nat) : Nat → Nat := fun j => if a ≤ j ∧ j < a + k then f (j - a + b) else if b ≤ j ∧ j < b + k then f (j - b + a) else f j
theorem swapF_zero (f : Nat → Nat) (a b : Nat) : swapF f a b 0 = f := by
  funext j; unfold swapF; rw [if_neg (by omega), if_neg (by omega)]
theorem swapF_next {f : Nat → Nat} {a b i : Nat} (h : a + i < b) : upd (upd (swapF f a b i) (a + i) (swapF f a b i (b + i))) (b + i) (swapF f a b i (a + i)) = swapF f a b (i + 1) := by
  have e1 : swapF f a b i (b + i) = f (b + i) := by unfold swapF; rw [if_neg (by omega), if_neg (by omega)]
  have e2 : swapF f a b i (a + i) = f (a + i) := by unfold swapF; rw [if_neg (by omega), if_neg (by omega)]
  funext j
  rw [e1, e2]
  unfold upd swapF
  by_cases h1 : j = b + i
  · subst h1; rw [if_pos rfl, if_neg (by omega), if_pos (by omega)]; congr 1; omega
  · rw [if_neg h1]
    by_cases h2 : j = a + i
    · subst h2; rw [if_pos rfl, if_pos (by omega)]; congr 1; omega
    · rw [if_neg h2]
      by_cases h3 : a ≤ j ∧ j < a + i
      · rw [if_pos h3, if_pos (by omega)]
      · by_cases h4 : b ≤ j ∧ j < b + i
        · rw [if_neg h3, if_pos h4, if_neg (by omega), if_pos (by omega)]
        · rw [if_neg h3, if_neg h4, if_neg (by omega), if_neg (by omega)]
/-- A stretch is turned: what is from m on comes first. -/
def rotF (f : Nat → Nat) (a m b : Nat) : Nat → Nat := fun j => if a ≤ j ∧ j < a + (b - m) then f (j - a + m) else if a + (b - m) ≤ j ∧ j < b then f (j - (b - m)) else f j
theorem rot_big {f : Nat → Nat} {m i j : Nat} (h1 : j < i) (h2 : i ≤ m) : rotF (swapF f (m - i) m j) (m - (i - j)) m (m + j) = rotF f (m - i) m (m + j) := by
  funext x
  unfold rotF swapF
  by_cases c1 : m - i ≤ x ∧ x < m - i + (m + j - m)
  · rw [if_pos c1, if_neg (by omega), if_neg (by omega), if_pos (by omega)]
  · rw [if_neg c1]
    by_cases c2 : m - i + (m + j - m) ≤ x ∧ x < m + j
    · rw [if_pos c2]
      by_cases c3 : m - (i - j) ≤ x ∧ x < m - (i - j) + (m + j - m)
      · rw [if_pos c3, if_neg (by omega), if_pos (by omega)]; congr 1; omega
      · rw [if_neg c3, if_pos (by omega), if_neg (by omega), if_neg (by omega)]
    · rw [if_neg c2, if_neg (by omega), if_neg (by omega), if_neg (by omega), if_neg (by omega)]
theorem rot_small {f : Nat → Nat} {m i j : Nat} (h1 : i < j) (h2 : i ≤ m) : rotF (swapF f (m - i) (m + j - i) i) (m - i) m (m + (j - i)) = rotF f (m - i) m (m + j) := by
  funext x
  unfold rotF swapF
  by_cases c1 : m - i ≤ x ∧ x < m - i + (m + j - m)
  · rw [if_pos c1]
    by_cases c3 : m - i ≤ x ∧ x < m - i + (m + (j - i) - m)
    · rw [if_pos c3, if_neg (by omega), if_neg (by omega)]
    · rw [if_neg c3]
      by_cases c4 : x < m + (j - i)
      · rw [if_pos (by omega), if_pos (by omega)]; congr 1; omega
      · rw [if_neg (by omega), if_neg (by omega)]
        by_cases c5 : m + j - i ≤ x ∧ x < m + j - i + i
        · omega
        · omega
  · rw [if_neg c1]
    by_cases c2 : m - i + (m + j - m) ≤ x ∧ x < m + j
    · rw [if_pos c2, if_neg (by omega), if_neg (by omega), if_neg (by omega), if_pos (by omega)]; congr 1; omega
    · rw [if_neg c2, if_neg (by omega), if_neg (by omega), if_neg (by omega), if_neg (by omega)]
theorem rot_eq {f : Nat → Nat} {m i : Nat} (h2 : i ≤ m) : swapF f (m - i) m i = rotF f (m - i) m (m + i) := by
  funext x
  unfold rotF swapF
  split
  · rw [if_pos (by omega)]
  · split
    · rw [if_neg (by omega), if_pos (by omega)]; congr 1; omega
    · rw [if_neg (by omega), if_neg (by omega)]

/-! ### The order of places by keys -/
def bef (K : Nat → Int) (x y : Nat) : Prop := K x < K y ∨ (K x = K y ∧ x < y)
instance (K : Nat → Int) (x y : Nat) : Decidable (bef K x y) := by unfold bef; infer_instance
section
variable {K : Nat → Int} {x y z : Nat}
theorem bef.trans (h1 : bef K x y) (h2 : bef K y z) : bef K x z := by unfold bef at *; omega
theorem bef.irr (h : bef K x x) : False := by unfold bef at h; omega
theorem bef.asym (h1 : bef K x y) (h2 : bef K y x) : False := (h1.trans h2).irr
theorem bef.total (K : Nat → Int) (x y : Nat) : bef K x y ∨ x = y ∨ bef K y x := by unfold bef; omega
theorem bef.not (h : ¬ K y < K x) (hc : K x = K y → x < y) : bef K x y := by unfold bef; omega
end
/-- What stands from a on and ahead of b stood there. -/
structure Frm (a b : Nat) (f g : Nat → Nat) : Prop where
  out : ∀ j, j < a ∨ b ≤ j → g j = f j
  src : ∀ j, a ≤ j → j < b → ∃ i, a ≤ i ∧ i < b ∧ g j = f i
theorem Frm.refl (a b : Nat) (f : Nat → Nat) : Frm a b f f := ⟨fun _ _ => rfl, fun j h1 h2 => ⟨j, h1, h2, rfl⟩⟩
theorem Frm.trans {a b : Nat} {f g h : Nat → Nat} (h1 : Frm a b f g) (h2 : Frm a b g h) : Frm a b f h :=
  ⟨fun j hj => (h2.out j hj).trans (h1.out j hj), fun j ha hb => by
    obtain ⟨i, i1, i2, i3⟩ := h2.src j ha hb
    obtain ⟨k, k1, k2, k3⟩ := h1.src i i1 i2
    exact ⟨k, k1, k2, i3.trans k3⟩⟩
theorem Frm.mono {a b a' b' : Nat} {f g : Nat → Nat} (h : Frm a b f g) (ha : a' ≤ a) (hb : b ≤ b') : Frm a' b' f g :=
  ⟨fun j hj => h.out j (by omega), fun j h1 h2 => by
    by_cases c : a ≤ j ∧ j < b
    · obtain ⟨i, i1, i2, i3⟩ := h.src j c.1 c.2
      exact ⟨i, by omega, by omega, i3⟩
    · exact ⟨j, h1, h2, h.out j (by omega)⟩⟩
def Srt (K : Nat → Int) (a b : Nat) (f : Nat → Nat) : Prop := ∀ j k, a ≤ j → j < k → k < b → bef K (f j) (f k)
def Crs (K : Nat → Int) (a m b : Nat) (f : Nat → Nat) : Prop := ∀ j k, a ≤ j → j < m → m ≤ k → k < b → K (f j) = K (f k) → f j < f k
def Seg (K : Nat → Int) (a b : Nat) (f : Nat → Nat) : Prop := Srt K a b f ∧ ∀ j, a ≤ j → j < b → a ≤ f j ∧ f j < b
theorem Seg.crs {K : Nat → Int} {a m b : Nat} {f : Nat → Nat} (h1 : Seg K a m f) (h2 : Seg K m b f) : Crs K a m b f := fun j k a1 a2 a3 a4 _ => by
  have := h1.2 j a1 a2
  have := h2.2 k a3 a4
  omega
theorem Seg.merged {K : Nat → Int} {a m b : Nat} {f g : Nat → Nat} (h1 : Seg K a m f) (h2 : Seg K m b f) (hm : a ≤ m ∧ m ≤ b) (hf : Frm a b f g) (hs : Srt K a b g) : Seg K a b g := ⟨hs, fun j ha hb => by
  obtain ⟨i, i1, i2, i3⟩ := hf.src j ha hb
  rw [i3]
  by_cases c : i < m
  · have := h1.2 i i1 c; omega
  · have := h2.2 i (by omega) i2; omega⟩
theorem Seg.out {K : Nat → Int} {a b : Nat} {f g : Nat → Nat} (h : Seg K a b f) (e : ∀ j, a ≤ j → j < b → g j = f j) : Seg K a b g :=
  ⟨fun j k h1 h2 h3 => by rw [e j h1 (by omega), e k (by omega) h3]; exact h.1 j k h1 h2 h3, fun j h1 h2 => by rw [e j h1 h2]; exact h.2 j h1 h2⟩
theorem Seg.none {K : Nat → Int} {a b : Nat} {f : Nat → Nat} (h : b ≤ a) : Seg K a b f := ⟨fun j k _ _ _ => by omega, fun j _ _ => by omega⟩
theorem rot_frm {f : Nat → Nat} {a m b : Nat} (h1 : a ≤ m) (h2 : m ≤ b) : Frm a b f (rotF f a m b) := by
  refine ⟨fun j hj => ?_, fun j ha hb => ?_⟩
  · unfold rotF; rw [if_neg (by omega), if_neg (by omega)]
  · unfold rotF
    by_cases c : a ≤ j ∧ j < a + (b - m)
    · rw [if_pos c]; exact ⟨_, by omega, by omega, rfl⟩
    · rw [if_neg c, if_pos (by omega)]; exact ⟨_, by omega, by omega, rfl⟩
theorem rot_lo {f : Nat → Nat} {a m b j : Nat} (h1 : a ≤ j) (h2 : j < a + (b - m)) : rotF f a m b j = f (j - a + m) := by unfold rotF; rw [if_pos ⟨h1, h2⟩]
theorem rot_hi {f : Nat → Nat} {a m b j : Nat} (h1 : a + (b - m) ≤ j) (h2 : j < b) : rotF f a m b j = f (j - (b - m)) := by unfold rotF; rw [if_neg (by omega), if_pos ⟨h1, h2⟩]
theorem rot_out {f : Nat → Nat} {a m b j : Nat} (ha : a ≤ m) (hm : m ≤ b) (h1 : j < a ∨ b ≤ j) : rotF f a m b j = f j := (rot_frm ha hm).out j h1
theorem rot_id {f : Nat → Nat} {a m b : Nat} (h1 : a ≤ m) (h2 : m ≤ b) (h : a = m ∨ m = b) : rotF f a m b = f := by
  funext j; unfold rotF
  rcases h with rfl | rfl
  · split
    · congr 1; omega
    · split
      · omega
      · rfl
  · split
    · omega
    · split
      · congr 1; omega
      · rfl
/-- The midst of a merge: what is turned stands right. -/
structure Mid (K : Nat → Int) (a st mid en b : Nat) (f : Nat → Nat) : Prop where
  s1 : Srt K a st f
  s2 : Srt K st mid f
  c1 : Crs K a st mid f
  s3 : Srt K mid en f
  s4 : Srt K en b f
  c2 : Crs K mid en b f
  lr : ∀ j k, a ≤ j → j < mid → mid ≤ k → k < b → bef K (f j) (f k)
theorem mid_of {K : Nat → Int} {a st m mid en b : Nat} {f : Nat → Nat} (h1 : Srt K a m f) (h2 : Srt K m b f) (hc : Crs K a m b f) (ha : a ≤ st) (hm : st ≤ m) (hme : m ≤ en) (hen : en ≤ b) (hs : st + en = mid + m) (hml : st ≤ mid) (hmr : mid ≤ en)
    (hl : st = a ∨ en = b ∨ ¬ K (f en) < K (f (st - 1))) (hr : st = m ∨ en = m ∨ K (f (en - 1)) < K (f st)) : Mid K a st mid en b (rotF f st m en) := by
  have lo : ∀ j, st ≤ j → j < mid → rotF f st m en j = f (j - st + m) := fun j j1 j2 => rot_lo j1 (by omega)
  have hi : ∀ j, mid ≤ j → j < en → rotF f st m en j = f (j - (en - m)) := fun j j1 j2 => rot_hi (by omega) j2
  have ou : ∀ j, j < st ∨ en ≤ j → rotF f st m en j = f j := fun j hj => rot_out hm hme hj
  have ll : ∀ i k, a ≤ i → i < st → en ≤ k → k < b → bef K (f i) (f k) := fun i k i1 i2 k1 k2 => by
    have hb : bef K (f (st - 1)) (f en) := (by
      rcases hl with h | h | h
      · omega
      · omega
      · exact bef.not h (hc _ _ (by omega) (by omega) (by omega) (by omega)))
    have e1 : i = st - 1 ∨ bef K (f i) (f (st - 1)) := by
      by_cases c : i = st - 1
      · exact .inl c
      · exact .inr (h1 _ _ i1 (by omega) (by omega))
    have e2 : en = k ∨ bef K (f en) (f k) := by
      by_cases c : en = k
      · exact .inl c
      · exact .inr (h2 _ _ hme (by omega) k2)
    rcases e1 with rfl | e1 <;> rcases e2 with rfl | e2
    · exact hb
    · exact hb.trans e2
    · exact e1.trans hb
    · exact e1.trans (hb.trans e2)
  have rr : ∀ i k, m ≤ i → i < en → st ≤ k → k < m → bef K (f i) (f k) := fun i k i1 i2 k1 k2 => by
    have hb : bef K (f (en - 1)) (f st) := (by
      rcases hr with h | h | h
      · omega
      · omega
      · exact .inl h)
    have e1 : i = en - 1 ∨ bef K (f i) (f (en - 1)) := by
      by_cases c : i = en - 1
      · exact .inl c
      · exact .inr (h2 _ _ i1 (by omega) (by omega))
    have e2 : st = k ∨ bef K (f st) (f k) := by
      by_cases c : st = k
      · exact .inl c
      · exact .inr (h1 _ _ ha (by omega) k2)
    rcases e1 with rfl | e1 <;> rcases e2 with rfl | e2
    · exact hb
    · exact hb.trans e2
    · exact e1.trans hb
    · exact e1.trans (hb.trans e2)
  refine ⟨fun j k j1 j2 j3 => ?_, fun j k j1 j2 j3 => ?_, fun j k j1 j2 j3 j4 => ?_, fun j k j1 j2 j3 => ?_, fun j k j1 j2 j3 => ?_, fun j k j1 j2 j3 j4 => ?_, fun j k j1 j2 j3 j4 => ?_⟩
  · rw [ou j (by omega), ou k (by omega)]; exact h1 j k j1 j2 (by omega)
  · rw [lo j j1 (by omega), lo k (by omega) j3]; exact h2 _ _ (by omega) (by omega) (by omega)
  · rw [ou j (by omega), lo k j3 j4]; exact hc _ _ j1 (by omega) (by omega) (by omega)
  · rw [hi j j1 (by omega), hi k (by omega) j3]; exact h1 _ _ (by omega) (by omega) (by omega)
  · rw [ou j (by omega), ou k (by omega)]; exact h2 j k (by omega) j2 j3
  · rw [hi j j1 j2, ou k (by omega)]; exact hc _ _ (by omega) (by omega) (by omega) j4
  · by_cases cj : j < st
    · rw [ou j (by omega)]
      by_cases ck : k < en
      · rw [hi k j3 ck]; exact h1 _ _ j1 (by omega) (by omega)
      · rw [ou k (by omega)]; exact ll _ _ j1 cj (by omega) j4
    · rw [lo j (by omega) j2]
      by_cases ck : k < en
      · rw [hi k j3 ck]; exact rr _ _ (by omega) (by omega) (by omega) (by omega)
      · rw [ou k (by omega)]; exact h2 _ _ (by omega) (by omega) j4
theorem srt_of {K : Nat → Int} {a st mid : Nat} {f : Nat → Nat} (h1 : Srt K a st f) (h2 : Srt K st mid f) (h : ¬ (a < st ∧ st < mid)) (ha : a ≤ st) (hm : st ≤ mid) : Srt K a mid f := by
  by_cases c : st = a
  · subst c; exact h2
  · have : st = mid := by omega
    subst this; exact h1
theorem srt_join {K : Nat → Int} {a mid b : Nat} {f g1 g2 : Nat → Nat} (hlr : ∀ j k, a ≤ j → j < mid → mid ≤ k → k < b → bef K (f j) (f k)) (f1 : Frm a mid f g1) (s1 : Srt K a mid g1) (f2 : Frm mid b g1 g2) (s2 : Srt K mid b g2) : Srt K a b g2 := fun j k j1 j2 j3 => by
  by_cases cj : j < mid
  · rw [f2.out j (.inl cj)]
    by_cases ck : k < mid
    · rw [f2.out k (.inl ck)]; exact s1 j k j1 j2 ck
    · obtain ⟨i, i1, i2, i3⟩ := f1.src j j1 cj
      obtain ⟨l, l1, l2, l3⟩ := f2.src k (by omega) j3
      rw [i3, l3, f1.out l (.inr l1)]; exact hlr _ _ i1 i2 l1 l2
  · exact s2 j k (by omega) j2 j3
/-- One goes into the others: from the left. -/
theorem put_left {K : Nat → Int} {a b i : Nat} {f : Nat → Nat} (h2 : Srt K (a + 1) b f) (hc : Crs K a (a + 1) b f) (h1 : a + 1 ≤ i) (hb : i ≤ b) (hl : i = a + 1 ∨ K (f (i - 1)) < K (f a)) (hr : i = b ∨ ¬ K (f i) < K (f a)) : Srt K a b (rotF f a (a + 1) i) := fun j k j1 j2 j3 => by
  have lo : ∀ j, a ≤ j → j < i - 1 → rotF f a (a + 1) i j = f (j + 1) := fun j j1 j2 => by rw [rot_lo j1 (by omega)]; congr 1; omega
  have hi : rotF f a (a + 1) i (i - 1) = f a := by rw [rot_hi (by omega) (by omega)]; congr 1; omega
  have ou : ∀ j, i ≤ j → rotF f a (a + 1) i j = f j := fun j hj => rot_out (by omega) (by omega) (.inr hj)
  have hlt : ∀ l, a + 1 ≤ l → l < i → bef K (f l) (f a) := fun l l1 l2 => by
    have hb : bef K (f (i - 1)) (f a) := (by
      rcases hl with h | h
      · omega
      · exact .inl h)
    by_cases c : l = i - 1
    · rw [c]; exact hb
    · exact (h2 _ _ l1 (by omega) (by omega)).trans hb
  have hgt : ∀ l, i ≤ l → l < b → bef K (f a) (f l) := fun l l1 l2 => by
    have hb : bef K (f a) (f i) := (by
      rcases hr with h | h
      · omega
      · exact bef.not h (hc _ _ (by omega) (by omega) (by omega) (by omega)))
    by_cases c : l = i
    · rw [c]; exact hb
    · exact hb.trans (h2 _ _ (by omega) (by omega) l2)
  by_cases c1 : j < i - 1
  · rw [lo j j1 c1]
    by_cases c2 : k < i - 1
    · rw [lo k (by omega) c2]; exact h2 _ _ (by omega) (by omega) (by omega)
    · by_cases c3 : k = i - 1
      · rw [c3, hi]; exact hlt _ (by omega) (by omega)
      · rw [ou k (by omega)]; exact h2 _ _ (by omega) (by omega) j3
  · by_cases c2 : j = i - 1
    · rw [c2, hi, ou k (by omega)]; exact hgt _ (by omega) j3
    · rw [ou j (by omega), ou k (by omega)]; exact h2 _ _ (by omega) j2 j3
/-- .. and from the right. -/
theorem put_right {K : Nat → Int} {a m i : Nat} {f : Nat → Nat} (h1 : Srt K a m f) (hc : Crs K a m (m + 1) f) (ha : a ≤ i) (hm : i ≤ m) (hl : i = a ∨ ¬ K (f m) < K (f (i - 1))) (hr : i = m ∨ K (f m) < K (f i)) : Srt K a (m + 1) (rotF f i m (m + 1)) := fun j k j1 j2 j3 => by
  have lo : rotF f i m (m + 1) i = f m := by rw [rot_lo (by omega) (by omega)]; congr 1; omega
  have hi : ∀ j, i < j → j ≤ m → rotF f i m (m + 1) j = f (j - 1) := fun j j1 j2 => by rw [rot_hi (by omega) (by omega)]; congr 1; omega
  have ou : ∀ j, j < i → rotF f i m (m + 1) j = f j := fun j hj => rot_out hm (by omega) (.inl hj)
  have hlt : ∀ l, a ≤ l → l < i → bef K (f l) (f m) := fun l l1 l2 => by
    have hb : bef K (f (i - 1)) (f m) := (by
      rcases hl with h | h
      · omega
      · exact bef.not h (hc _ _ (by omega) (by omega) (by omega) (by omega)))
    by_cases c : l = i - 1
    · rw [c]; exact hb
    · exact (h1 _ _ l1 (by omega) (by omega)).trans hb
  have hgt : ∀ l, i ≤ l → l < m → bef K (f m) (f l) := fun l l1 l2 => by
    have hb : bef K (f m) (f i) := (by
      rcases hr with h | h
      · omega
      · exact .inl h)
    by_cases c : l = i
    · rw [c]; exact hb
    · exact hb.trans (h1 _ _ (by omega) (by omega) l2)
  by_cases c1 : j < i
  · rw [ou j c1]
    by_cases c2 : k < i
    · rw [ou k c2]; exact h1 _ _ j1 j2 (by omega)
    · by_cases c3 : k = i
      · rw [c3, lo]; exact hlt _ j1 c1
      · rw [hi k (by omega) (by omega)]; exact h1 _ _ j1 (by omega) (by omega)
  · by_cases c2 : j = i
    · rw [c2, lo, hi k (by omega) (by omega)]; exact hgt _ (by omega) (by omega)
    · rw [hi j (by omega) (by omega), hi k (by omega) (by omega)]; exact h1 _ _ (by omega) (by omega) (by omega)
theorem rot_up {f : Nat → Nat} {a k : Nat} (h : a ≤ k) : upd (upd (rotF f a (a + 1) (k + 1)) k (rotF f a (a + 1) (k + 1) (k + 1))) (k + 1) (rotF f a (a + 1) (k + 1) k) = rotF f a (a + 1) (k + 2) := by
  have e1 : rotF f a (a + 1) (k + 1) (k + 1) = f (k + 1) := rot_out (by omega) (by omega) (.inr (Nat.le_refl _))
  have e2 : rotF f a (a + 1) (k + 1) k = f a := by
    rw [rot_hi (by omega) (by omega)]; congr 1; omega
  rw [e1, e2]; funext j
  unfold upd rotF
  by_cases c1 : j = k + 1
  · rw [if_pos c1, if_neg (by omega), if_pos (by omega)]; congr 1; omega
  · rw [if_neg c1]
    by_cases c2 : j = k
    · rw [if_pos c2, if_pos (by omega)]; congr 1; omega
    · rw [if_neg c2]
      by_cases c3 : a ≤ j ∧ j < k
      · rw [if_pos (by omega), if_pos (by omega)]
      · rw [if_neg (by omega), if_neg (by omega), if_neg (by omega), if_neg (by omega)]
theorem rot_dn {f : Nat → Nat} {m k : Nat} (h : k < m) : upd (upd (rotF f (k + 1) m (m + 1)) (k + 1) (rotF f (k + 1) m (m + 1) k)) k (rotF f (k + 1) m (m + 1) (k + 1)) = rotF f k m (m + 1) := by
  have e1 : rotF f (k + 1) m (m + 1) k = f k := rot_out (by omega) (by omega) (.inl (by omega))
  have e2 : rotF f (k + 1) m (m + 1) (k + 1) = f m := by
    rw [rot_lo (by omega) (by omega)]; congr 1; omega
  rw [e1, e2]; funext j
  unfold upd rotF
  by_cases c1 : j = k
  · rw [if_pos c1, if_pos (by omega)]; congr 1; omega
  · rw [if_neg c1]
    by_cases c2 : j = k + 1
    · rw [if_pos c2, if_neg (by omega), if_pos (by omega)]; congr 1; omega
    · rw [if_neg c2]
      by_cases c3 : k + 1 < j ∧ j < m + 1
      · rw [if_neg (by omega), if_pos (by omega), if_neg (by omega), if_pos (by omega)]
      · rw [if_neg (by omega), if_neg (by omega), if_neg (by omega), if_neg (by omega)]
/-! ### Blocks -/
def Blk (K : Nat → Int) (s n : Nat) (f : Nat → Nat) : Prop := ∀ q, Seg K (q * s) (min (q * s + s) n) f
structure Ins (K : Nat → Int) (n q : Nat) (f : Nat → Nat) : Prop where
  le : q * 20 ≤ n
  lo : ∀ p, p < q → Seg K (p * 20) (p * 20 + 20) f
  hi : ∀ j, q * 20 ≤ j → f j = j
structure Pass (K : Nat → Int) (s n q : Nat) (f : Nat → Nat) : Prop where
  le : q * (2 * s) ≤ n
  lo : ∀ p, p < q → Seg K (p * (2 * s)) (p * (2 * s) + 2 * s) f
  hi : ∀ p, 2 * q ≤ p → Seg K (p * s) (min (p * s + s) n) f
theorem Ins.start (K : Nat → Int) (n : Nat) : Ins K n 0 (fun j => j) := ⟨by omega, fun p h => by omega, fun _ _ => rfl⟩
theorem Ins.next {K : Nat → Int} {n q : Nat} {f g : Nat → Nat} (h : Ins K n q f) (hb : q * 20 + 20 ≤ n) (ho : ∀ j, j < q * 20 ∨ q * 20 + 20 ≤ j → g j = f j) (hg : Seg K (q * 20) (q * 20 + 20) g) : Ins K n (q + 1) g := by
  refine ⟨by omega, fun p hp => ?_, fun j hj => by rw [ho j (by omega)]; exact h.hi j (by omega)⟩
  by_cases c : p = q
  · rw [c]; exact hg
  · exact (h.lo p (by omega)).out fun j _ _ => ho j (by omega)
theorem Ins.last {K : Nat → Int} {n q : Nat} {f g : Nat → Nat} (h : Ins K n q f) (hb : n < q * 20 + 20) (ho : ∀ j, j < q * 20 ∨ n ≤ j → g j = f j) (hg : Seg K (q * 20) n g) : Blk K 20 n g := by
  intro p
  have hle := h.le
  by_cases c : p = q
  · rw [c, Nat.min_eq_right (by omega)]; exact hg
  · by_cases c2 : p < q
    · rw [Nat.min_eq_left (by omega)]; exact (h.lo p c2).out fun j _ _ => ho j (by omega)
    · exact Seg.none (by omega)
theorem Pass.start {K : Nat → Int} {s n : Nat} {f : Nat → Nat} (h : Blk K s n f) : Pass K s n 0 f := ⟨by omega, fun p h => by omega, fun p _ => h p⟩
theorem Pass.two {K : Nat → Int} {s n q : Nat} {f : Nat → Nat} (h : Pass K s n q f) (hb : q * (2 * s) + s < n) : Seg K (q * (2 * s)) (q * (2 * s) + s) f ∧ Seg K (q * (2 * s) + s) (min (q * (2 * s) + 2 * s) n) f := by
  have h1 := h.hi (2 * q) (Nat.le_refl _)
  have h2 := h.hi (2 * q + 1) (by omega)
  have e1 : 2 * q * s = q * (2 * s) := by rw [Nat.mul_comm 2 q, Nat.mul_assoc]
  have e2 : (2 * q + 1) * s = q * (2 * s) + s := by rw [Nat.succ_mul, e1]
  rw [e1, Nat.min_eq_left (by omega)] at h1
  rw [e2, show q * (2 * s) + s + s = q * (2 * s) + 2 * s from by omega] at h2
  exact ⟨h1, h2⟩
theorem Pass.next {K : Nat → Int} {s n q : Nat} {f g : Nat → Nat} (h : Pass K s n q f) (hb : q * (2 * s) + 2 * s ≤ n) (ho : ∀ j, j < q * (2 * s) ∨ q * (2 * s) + 2 * s ≤ j → g j = f j) (hg : Seg K (q * (2 * s)) (q * (2 * s) + 2 * s) g) : Pass K s n (q + 1) g := by
  have e3 : (q + 1) * (2 * s) = q * (2 * s) + 2 * s := Nat.succ_mul _ _
  refine ⟨by omega, fun p hp => ?_, fun p hp => ?_⟩
  · by_cases c : p = q
    · rw [c]; exact hg
    · have : (p + 1) * (2 * s) ≤ q * (2 * s) := Nat.mul_le_mul_right _ (by omega)
      rw [Nat.succ_mul] at this
      exact (h.lo p (by omega)).out fun j _ _ => ho j (by omega)
  · have e1 : 2 * (q + 1) * s = q * (2 * s) + 2 * s := by rw [Nat.mul_comm 2 (q + 1), Nat.mul_assoc, e3]
    have : 2 * (q + 1) * s ≤ p * s := Nat.mul_le_mul_right _ hp
    exact (h.hi p (by omega)).out fun j _ _ => ho j (by omega)
theorem Pass.last {K : Nat → Int} {s n q : Nat} {f g : Nat → Nat} (h : Pass K s n q f) (hb : n < q * (2 * s) + 2 * s) (ho : ∀ j, j < q * (2 * s) ∨ n ≤ j → g j = f j) (hg : Seg K (q * (2 * s)) n g) : Blk K (2 * s) n g := by
  intro p
  have hle := h.le
  by_cases c : p = q
  · rw [c, Nat.min_eq_right (by omega)]; exact hg
  · by_cases c2 : p < q
    · have : (p + 1) * (2 * s) ≤ q * (2 * s) := Nat.mul_le_mul_right _ (by omega)
      rw [Nat.succ_mul] at this
      rw [Nat.min_eq_left (by omega)]; exact (h.lo p c2).out fun j _ _ => ho j (by omega)
    · have : (q + 1) * (2 * s) ≤ p * (2 * s) := Nat.mul_le_mul_right _ (by omega)
      rw [Nat.succ_mul] at this
      exact Seg.none (by omega)
theorem Pass.end {K : Nat → Int} {s n q : Nat} {f : Nat → Nat} (h : Pass K s n q f) (hb : n < q * (2 * s) + 2 * s) (hm : n ≤ q * (2 * s) + s) : Blk K (2 * s) n f := by
  refine h.last hb (fun _ _ => rfl) ?_
  have h1 := h.hi (2 * q) (Nat.le_refl _)
  have e1 : 2 * q * s = q * (2 * s) := by rw [Nat.mul_comm 2 q, Nat.mul_assoc]
  rw [e1, Nat.min_eq_right (by omega)] at h1
  exact h1
theorem Blk.all {K : Nat → Int} {s n : Nat} {f : Nat → Nat} (h : Blk K s n f) (hs : n ≤ s) : Seg K 0 n f := by
  have := h 0
  rwa [Nat.zero_mul, Nat.min_eq_right (by omega)] at this
/-! ### The order itself, and that there is but one -/
def ordM (K : Nat → Int) (n : Nat) : List Nat := (List.range n).mergeSort (fun x y => decide (bef K x y ∨ x = y))
theorem ordM_perm (K : Nat → Int) (n : Nat) : (ordM K n).Perm (List.range n) := List.mergeSort_perm _ _
theorem ordM_len (K : Nat → Int) (n : Nat) : (ordM K n).length = n := by rw [(ordM_perm K n).length_eq, List.length_range]
theorem ordM_mem {K : Nat → Int} {n x : Nat} : x ∈ ordM K n ↔ x < n := by rw [(ordM_perm K n).mem_iff, List.mem_range]
theorem ordM_srt (K : Nat → Int) (n : Nat) : (ordM K n).Pairwise (bef K) := by
  have h1 : (ordM K n).Pairwise (fun x y => decide (bef K x y ∨ x = y) = true) := List.pairwise_mergeSort (fun a b c h1 h2 => by
      simp only [decide_eq_true_eq] at *
      rcases h1 with h1 | rfl
      · rcases h2 with h2 | rfl
        · exact .inl (h1.trans h2)
        · exact .inl h1
      · exact h2) (fun a b => by
      simp only [Bool.or_eq_true, decide_eq_true_eq]
      rcases bef.total K a b with h | h | h
      · exact .inl (.inl h)
      · exact .inl (.inr h)
      · exact .inr (.inl h)) _
  have h2 : (ordM K n).Nodup := (ordM_perm K n).nodup_iff.2 List.nodup_range
  refine List.Pairwise.imp₂ (fun a b h3 h4 => ?_) h1 h2
  simp only [decide_eq_true_eq] at h3
  rcases h3 with h3 | h3
  · exact h3
  · exact absurd h3 h4
theorem srt_uniq {K : Nat → Int} : ∀ {xs ys : List Nat}, xs.Pairwise (bef K) → ys.Pairwise (bef K) → (∀ x, x ∈ xs ↔ x ∈ ys) → xs = ys
  | [], [], _, _, _ => rfl
  | [], y :: _, _, _, h => by have := (h y).2 (List.mem_cons_self); cases this
  | x :: _, [], _, _, h => by have := (h x).1 (List.mem_cons_self); cases this
  | x :: xs, y :: ys, h1, h2, h => by
    have p1 := List.pairwise_cons.1 h1
    have p2 := List.pairwise_cons.1 h2
    have e : x = y := by
      rcases List.mem_cons.1 ((h x).1 List.mem_cons_self) with e | e
      · exact e
      · rcases List.mem_cons.1 ((h y).2 List.mem_cons_self) with e2 | e2
        · exact e2.symm
        · exact ((p1.1 _ e2).asym (p2.1 _ e)).elim
    subst e
    congr 1
    refine srt_uniq p1.2 p2.2 fun z => ?_
    constructor
    · intro hz
      rcases List.mem_cons.1 ((h z).1 (List.mem_cons_of_mem _ hz)) with e | e
      · subst e; exact ((p1.1 _ hz).irr).elim
      · exact e
    · intro hz
      rcases List.mem_cons.1 ((h z).2 (List.mem_cons_of_mem _ hz)) with e | e
      · subst e; exact ((p2.1 _ hz).irr).elim
      · exact e
theorem len_sub {α : Type} [DecidableEq α] : ∀ {xs ys : List α}, xs.Nodup → (∀ x ∈ xs, x ∈ ys) → xs.length ≤ ys.length
  | [], _, _, _ => Nat.zero_le _
  | x :: xs, ys, hn, h => by
    have hp := List.nodup_cons.1 hn
    have hx := h x List.mem_cons_self
    have := len_sub (ys := ys.erase x) hp.2 (fun z hz => by
      refine (List.mem_erase_of_ne ?_).2 (h z (List.mem_cons_of_mem _ hz))
      rintro rfl; exact hp.1 hz)
    rw [List.length_erase_of_mem hx] at this
    have h0 : 0 < ys.length := List.length_pos_of_mem hx
    simp only [List.length_cons]; omega
theorem ord_of_srt {K : Nat → Int} {n : Nat} {xs : List Nat} (hs : xs.Pairwise (bef K)) (hl : xs.length = n) (hm : ∀ x ∈ xs, x < n) : xs = ordM K n := by
  have hn : xs.Nodup := hs.imp fun h e => by subst e; exact h.irr
  refine srt_uniq hs (ordM_srt K n) fun x => ?_
  rw [ordM_mem]
  refine ⟨hm x, fun hx => ?_⟩
  by_cases c : x ∈ xs
  · exact c
  · have := len_sub (xs := x :: xs) (ys := List.range n) (List.nodup_cons.2 ⟨c, hn⟩) (fun z hz => by
      rw [List.mem_range]
      rcases List.mem_cons.1 hz with rfl | hz
      · exact hx
      · exact hm z hz)
    simp only [List.length_cons, List.length_range] at this; omega
theorem ord_of_perm {K : Nat → Int} {n : Nat} {xs : List Nat} (hs : xs.Pairwise (bef K)) (hp : xs.Perm (List.range n)) : xs = ordM K n :=
  ord_of_srt hs (by rw [hp.length_eq, List.length_range]) fun x hx => List.mem_range.1 (hp.mem_iff.1 hx)
def ncell (j : Nat) : List Value := icell (j : Int)
theorem ord_of_seg {K : Nat → Int} {n : Nat} {f : Nat → Nat} (h : Seg K 0 n f) : rowF n f = (ordM K n).map ncell := by
  have e : (List.range n).map f = ordM K n := by
    refine ord_of_srt ?_ (by simp) (fun x hx => ?_)
    · rw [List.pairwise_iff_getElem]
      intro i j hi hj hij
      simp only [List.getElem_map, List.getElem_range]
      exact h.1 i j (Nat.zero_le _) hij (by simpa using hj)
    · obtain ⟨j, hj, rfl⟩ := List.mem_map.1 hx
      exact (h.2 j (Nat.zero_le _) (List.mem_range.1 hj)).2
  rw [← e, List.map_map]; rfl
/-! ### Merging of lists -/
def mrgM (K : Nat → Int) : List Nat → List Nat → List Nat
  | [], ys => ys
  | x :: xs, [] => x :: xs
  | x :: xs, y :: ys => if K y < K x then y :: mrgM K (x :: xs) ys else x :: mrgM K xs (y :: ys)
termination_by xs ys => xs.length + ys.length
section
variable {K : Nat → Int}
theorem mrg_nilR (xs : List Nat) : mrgM K xs [] = xs := by cases xs <;> simp [mrgM]
theorem mrg_perm : ∀ (xs ys : List Nat), (mrgM K xs ys).Perm (xs ++ ys)
  | [], ys => by simp [mrgM]
  | x :: xs, [] => by simp [mrgM]
  | x :: xs, y :: ys => by
    rw [mrgM]
    split
    · exact ((mrg_perm (x :: xs) ys).cons y).trans List.perm_middle.symm
    · exact (mrg_perm xs (y :: ys)).cons x
termination_by xs ys => xs.length + ys.length
theorem mrg_srt : ∀ (xs ys : List Nat), xs.Pairwise (bef K) → ys.Pairwise (bef K) → (∀ x ∈ xs, ∀ y ∈ ys, K x = K y → x < y) → (mrgM K xs ys).Pairwise (bef K)
  | [], ys, _, h, _ => by simpa [mrgM] using h
  | x :: xs, [], h, _, _ => by simpa [mrgM] using h
  | x :: xs, y :: ys, h1, h2, hc => by
    have p1 := List.pairwise_cons.1 h1
    have p2 := List.pairwise_cons.1 h2
    rw [mrgM]
    split
    · rename_i hk
      refine List.pairwise_cons.2 ⟨fun z hz => ?_, mrg_srt (x :: xs) ys h1 p2.2 fun a ha b hb => hc a ha b (List.mem_cons_of_mem _ hb)⟩
      have hyx : bef K y x := .inl hk
      rcases List.mem_append.1 ((mrg_perm (x :: xs) ys).mem_iff.1 hz) with hz | hz
      · rcases List.mem_cons.1 hz with rfl | hz
        · exact hyx
        · exact hyx.trans (p1.1 z hz)
      · exact p2.1 z hz
    · rename_i hk
      refine List.pairwise_cons.2 ⟨fun z hz => ?_, mrg_srt xs (y :: ys) p1.2 h2 fun a ha b hb => hc a (List.mem_cons_of_mem _ ha) b hb⟩
      have hxy : bef K x y := bef.not hk (hc x List.mem_cons_self y List.mem_cons_self)
      rcases List.mem_append.1 ((mrg_perm xs (y :: ys)).mem_iff.1 hz) with hz | hz
      · exact p1.1 z hz
      · rcases List.mem_cons.1 hz with rfl | hz
        · exact hxy
        · exact hxy.trans (p2.1 z hz)
termination_by xs ys => xs.length + ys.length
theorem mrg_left {xs ys : List Nat} {i j x : Nat} (hx : xs[i]? = some x) (h : ∀ y, ys[j]? = some y → ¬ K y < K x) : mrgM K (xs.drop i) (ys.drop j) = x :: mrgM K (xs.drop (i + 1)) (ys.drop j) := by
  have hi : i < xs.length := by
    rcases Nat.lt_or_ge i xs.length with h1 | h1
    · exact h1
    · rw [List.getElem?_eq_none h1] at hx; cases hx
  rw [List.drop_eq_getElem_cons hi]
  rw [List.getElem?_eq_getElem hi] at hx
  rw [Option.some.inj hx]
  rcases Nat.lt_or_ge j ys.length with h1 | h1
  · rw [List.drop_eq_getElem_cons h1, mrgM, if_neg (h _ (List.getElem?_eq_getElem h1))]
  · rw [List.drop_eq_nil_of_le h1, mrg_nilR, mrg_nilR]
theorem mrg_right {xs ys : List Nat} {i j y : Nat} (hy : ys[j]? = some y) (h : ∀ x, xs[i]? = some x → K y < K x) : mrgM K (xs.drop i) (ys.drop j) = y :: mrgM K (xs.drop i) (ys.drop (j + 1)) := by
  have hj : j < ys.length := by
    rcases Nat.lt_or_ge j ys.length with h1 | h1
    · exact h1
    · rw [List.getElem?_eq_none h1] at hy; cases hy
  rw [List.drop_eq_getElem_cons hj]
  rw [List.getElem?_eq_getElem hj] at hy
  rw [Option.some.inj hy]
  rcases Nat.lt_or_ge i xs.length with h1 | h1
  · rw [List.drop_eq_getElem_cons h1, mrgM, if_pos (h _ (List.getElem?_eq_getElem h1))]
  · rw [List.drop_eq_nil_of_le h1, mrgM, mrgM]
end
end Go.Proofs.YtpmphkcibiimcaaGreat
