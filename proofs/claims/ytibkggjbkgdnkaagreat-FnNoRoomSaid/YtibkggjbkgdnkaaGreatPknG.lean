/-
  Texts of this proof, one behind the other: BestM, LowLaw, FewLaw.
-/
import Derived.Test.YtibkggjbkgdnkaaGreatPknD
import Derived.Test.YtibkggjbkgdnkaaGreatPknF
set_option linter.unusedVariables false
set_option linter.unusedSimpArgs false

/-
  The fewest cartons: a search through all ways. No program is in sight here.
-/
namespace Go.Proofs.YtibkggjbkgdnkaaGreat
open Go.RowKit
section
variable {α β : Type}
def stepB (p : α → β → Bool) (add : α → β → α) (f : List α → Nat) (u : β) (L : List α) (b i : Nat) : Nat := match L[i]? with
  | some l => if p l u then min b (f (L.set i (add l u))) else b
  | none => b
/-- The fewest lists that t may be put into, behind those of L. -/
def fewM (p : α → β → Bool) (add : α → β → α) (one : β → α) : List β → List α → Nat
  | [], L => L.length
  | u :: t, L => (List.range L.length).foldl (stepB p add (fewM p add one t) u L) (fewM p add one t (L ++ [one u]))
variable {p : α → β → Bool} {add : α → β → α} {one : β → α}
variable (p add one)
/-- What a search has found when i places have been tried. -/
def triedB (t : List β) (u : β) (L : List α) (b i : Nat) : Nat := (List.range i).foldl (stepB p add (fewM p add one t) u L) b
variable {p add one}
variable {t : List β} {u : β} {L : List α} {b : Nat}
end
/-- The fewest cartons that units may be put into, behind those of L. -/
def fewU (r : ReqM) (t : List Int) (L : List (List Int)) : Nat := fewM (roomM r) (fun l u => l ++ [u]) (fun u => [u]) t L
/-- The fewest cartons of some units; -1 where there are too many to try. -/
def bestM (r : ReqM) (us : List Int) : Int := if classM r = 0 ∧ (thereM r us).length ≤ 8 then (fewU r (thereM r us) [] : Int) else -1
end Go.Proofs.YtibkggjbkgdnkaaGreat

/-
  No packing has fewer cartons than the lower bounds say.
-/
namespace Go.Proofs.YtibkggjbkgdnkaaGreat
theorem perm_sumL {xs ys : List Int} (h : xs.Perm ys) : xs.sum = ys.sum := by
  induction h with
  | nil => rfl
  | cons x _ ih => simp only [List.sum_cons, ih]
  | swap x y l => simp only [List.sum_cons]; omega
  | trans _ _ ih1 ih2 => rw [ih1, ih2]
theorem sum_ge0 {f : Int → Int} (hf : ∀ u, 0 ≤ f u) : ∀ g : List Int, 0 ≤ (g.map f).sum
  | [] => by simp
  | x :: r => by have := sum_ge0 hf r; have := hf x; rw [List.map_cons, List.sum_cons]; omega
section
variable {α β : Type} {p : α → β → Bool} {add : α → β → α} {one : β → α}
end
theorem holds_perm {r : ReqM} {a b : List Int} (h : a.Perm b) (hb : holdsM r b = true) : holdsM r a = true := by
  rw [holdsM] at hb ⊢
  rw [volUS, gramM] at hb ⊢
  rwa [perm_sumL (h.map (vOf r)), perm_sumL (h.map (gOf r))]
theorem holds_left {r : ReqM} {a b : List Int} (h : holdsM r (a ++ b) = true) : holdsM r a = true := by
  rw [holdsM, Bool.and_eq_true, decide_eq_true_eq, decide_eq_true_eq] at h ⊢
  simp only [volUS, gramM, List.map_append, List.sum_append] at h ⊢
  have h1 := sum_ge0 (f := vOf r) (fun u => (vOf_in r u).1) b
  have h2 := sum_ge0 (f := gOf r) (fun u => (gOf_in r u).1) b
  obtain ⟨h3, h4⟩ := h
  exact ⟨by omega, by omega⟩
end Go.Proofs.YtibkggjbkgdnkaaGreat
