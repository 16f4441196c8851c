/-
  Texts of this proof, one behind the other: NoRoomLaw, RatLaw.
-/
import Derived.Test.YtibkggjbkgdnkaaGreatPknG
set_option linter.unusedVariables false
set_option linter.unusedSimpArgs false

/-
  The first unit of a later carton finds no room in an earlier one.
-/
namespace Go.Proofs.YtibkggjbkgdnkaaGreat
/-- h begins with a unit that finds no room in g. -/
def NoRm (r : ReqM) (g h : List Int) : Prop := ∃ u t, h = u :: t ∧ roomM r g u = false
theorem room_more {r : ReqM} {g : List Int} {u : Int} (x : List Int) (h : roomM r g u = false) : roomM r (g ++ x) u = false := by
  cases hm : roomM r (g ++ x) u with
  | false => rfl
  | true =>
    rw [roomM, Bool.and_eq_true] at hm
    have h2 : holdsM r (g ++ [u]) = true := holds_left (b := x) (holds_perm (by simp only [List.append_assoc]; exact List.Perm.append_left _ List.perm_append_comm) hm.2)
    rw [roomM, hm.1, h2] at h
    cases h
theorem norm_more {r : ReqM} {g h : List Int} (x y : List Int) (hn : NoRm r g h) : NoRm r (g ++ x) (h ++ y) := by
  obtain ⟨u, t, rfl, h1⟩ := hn
  exact ⟨u, t ++ y, rfl, room_more x h1⟩
theorem put_mem {p : List Int → Bool} {x : Int} : ∀ {l : List (List Int)} {g : List Int}, g ∈ putM p l x → g ∈ l ∨ (∃ c ∈ l, g = c ++ [x]) ∨ g = [x]
  | [], g, h => by rw [putM, List.mem_singleton] at h; exact .inr (.inr h)
  | b :: r, g, h => by
    rw [putM] at h
    split at h
    · rcases List.mem_cons.1 h with rfl | h
      · exact .inr (.inl ⟨b, List.mem_cons_self, rfl⟩)
      · exact .inl (List.mem_cons_of_mem _ h)
    · rcases List.mem_cons.1 h with rfl | h
      · exact .inl List.mem_cons_self
      · rcases put_mem h with h | ⟨c, hc, rfl⟩ | rfl
        · exact .inl (List.mem_cons_of_mem _ h)
        · exact .inr (.inl ⟨c, List.mem_cons_of_mem _ hc, rfl⟩)
        · exact .inr (.inr rfl)
theorem put_norm {r : ReqM} {x : Int} : ∀ {l : List (List Int)}, l.Pairwise (NoRm r) → (putM (fun g => roomM r g x) l x).Pairwise (NoRm r)
  | [], _ => by rw [putM]; exact List.pairwise_singleton _ _
  | b :: l, h => by
    obtain ⟨h1, h2⟩ := List.pairwise_cons.1 h
    rw [putM]
    split
    · refine List.pairwise_cons.2 ⟨fun c hc => ?_, h2⟩
      have := norm_more [x] [] (h1 c hc)
      rwa [List.append_nil] at this
    · rename_i hp
      refine List.pairwise_cons.2 ⟨fun c hc => ?_, put_norm h2⟩
      rcases put_mem hc with hc | ⟨d, hd, rfl⟩ | rfl
      · exact h1 c hc
      · have := norm_more [] [x] (h1 d hd)
        rwa [List.append_nil] at this
      · exact ⟨x, [], rfl, by simpa using hp⟩
theorem first_norm (r : ReqM) (us : List Int) : (firstM r us).Pairwise (NoRm r) := by
  rw [firstM, putAll]
  have : ∀ (l : List Int) (out : List (List Int)), out.Pairwise (NoRm r) → (l.foldl (fun out x => putM (fun g => roomM r g x) out x) out).Pairwise (NoRm r) := by
    intro l
    induction l with
    | nil => intro out h; exact h
    | cons x t ih => intro out h; rw [List.foldl_cons]; exact ih _ (put_norm h)
  exact this _ [] List.Pairwise.nil
theorem put_ne {p : List Int → Bool} {x : Int} {l : List (List Int)} (h : ∀ g ∈ l, g ≠ []) : ∀ g ∈ putM p l x, g ≠ [] := fun g hg => by
  rcases put_mem hg with hg | ⟨c, _, rfl⟩ | rfl
  · exact h g hg
  · simp
  · simp
theorem first_ne (r : ReqM) (us : List Int) : ∀ g ∈ firstM r us, g ≠ [] := by
  rw [firstM, putAll]
  exact fold_all (Q := fun g => g ≠ []) (fun x _ o ho => put_ne ho) (fun g hg => absurd hg List.not_mem_nil)
/-- Each list begins with a unit that finds no room in the list just ahead. -/
def Chn (r : ReqM) (l : List (List Int)) : Prop := ∀ (i : Nat) g h, l[i]? = some g → l[i + 1]? = some h → NoRm r g h
theorem last_chn {r : ReqM} {x : Int} {l : List (List Int)} (hl : Chn r l) : Chn r (lastM (fun g => roomM r g x) l x) := by
  rw [lastM]
  cases h : l.getLast? with
  | none =>
    have : l = [] := List.getLast?_eq_none_iff.1 h
    subst this
    intro i g h h1 h2
    simp at h2
  | some b =>
    obtain ⟨ys, rfl⟩ := List.getLast?_eq_some_iff.1 h
    dsimp only
    split
    · have e : (ys ++ [b]).set ((ys ++ [b]).length - 1) (b ++ [x]) = ys ++ [b ++ [x]] := by simp
      rw [e]
      intro i g c h1 h2
      have hi : i + 1 < ys.length + 1 := by have := (List.getElem?_eq_some_iff.1 h2).1; simpa using this
      rw [List.getElem?_append_left (by omega)] at h1
      rcases Nat.lt_or_ge (i + 1) ys.length with hlt | hge
      · rw [List.getElem?_append_left hlt] at h2
        exact hl i g c (by rw [List.getElem?_append_left (by omega)]; exact h1) (by rw [List.getElem?_append_left hlt]; exact h2)
      · rw [List.getElem?_append_right hge, show i + 1 - ys.length = 0 from by omega] at h2
        cases h2
        have := hl i g b (by rw [List.getElem?_append_left (by omega)]; exact h1) (by rw [List.getElem?_append_right hge, show i + 1 - ys.length = 0 from by omega]; rfl)
        have := norm_more [] [x] this
        rwa [List.append_nil] at this
    · rename_i hp
      intro i g c h1 h2
      have hi : i + 1 < ys.length + 1 + 1 := by have := (List.getElem?_eq_some_iff.1 h2).1; simpa using this
      rw [List.getElem?_append_left (by simp; omega)] at h1
      rcases Nat.lt_or_ge (i + 1) (ys ++ [b]).length with hlt | hge
      · rw [List.getElem?_append_left hlt] at h2
        exact hl i g c h1 h2
      · have hil : i = ys.length := by simp at hge; omega
        subst hil
        rw [List.getElem?_append_right (by simp)] at h2 h1 <;> simp at h1 h2
        subst h1 h2
        exact ⟨x, [], rfl, by simpa using hp⟩
theorem next_chn (r : ReqM) (us : List Int) : Chn r (nextM r us) := by
  rw [nextM, lastAll]
  have : ∀ (l : List Int) (out : List (List Int)), Chn r out → Chn r (l.foldl (fun out x => lastM (fun g => roomM r g x) out x) out) := by
    intro l
    induction l with
    | nil => intro out h; exact h
    | cons x t ih => intro out h; rw [List.foldl_cons]; exact ih _ (last_chn h)
  exact this _ [] (fun i g h h1 _ => by simp at h1)
/-- A list's units find no room in g, and each of them is no greater than one of g. -/
def NoAll (r : ReqM) (f : Int → Int) (g h : List Int) : Prop := ∀ u ∈ h, roomM r g u = false ∧ ∃ y ∈ g, f u ≤ f y
/-- No unit of h fits beside the units of g. -/
def NoFit (f : Int → Int) (V : Int) (g h : List Int) : Prop := ∀ u ∈ h, V + 1 ≤ (g.map f).sum + f u
theorem first_len48 (r : ReqM) (us : List Int) : (firstM r us).length ≤ us.length := by rw [firstM]; exact Nat.le_trans (putAll_len _ _) (by rw [ordU_len]; exact thereM_len r us)
theorem next_len48 (r : ReqM) (us : List Int) : (nextM r us).length ≤ us.length := by rw [nextM]; exact Nat.le_trans (lastAll_len _ _) (thereM_len r us)
end Go.Proofs.YtibkggjbkgdnkaaGreat
