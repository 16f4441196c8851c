/-
  Texts of this proof, one behind the other: NoRoomLaw, RatLaw.
-/
import Derived.Test.YtibkggjbkgdnkaaGreatPkvG

/-
  The first unit of a later carton finds no room in an earlier one.
-/
namespace Go.Proofs.YtibkggjbkgdnkaaGreat
/-- h begins with a unit that finds no room in g. -/
def NoRm (r : ReqM) (g h : List Int) : Prop := ∃ u t, h = u :: t ∧ roomM r g u = false
theorem room_more {r : ReqM} {g : List Int} {u : Int} (x : List Int) (h : roomM r g u = false) : roomM r (g ++ x) u = false := by
  cases hm : roomM r (g ++ x) u with
  | false => rfl
  | true =>
    rw [roomM, Bool.and_eq_true] at hm
    have h2 : holdsM r (g ++ [u]) = true := holds_left (b := x) (holds_perm (by simp only [List.append_assoc]; exact List.Perm.append_left _ List.perm_append_comm) hm.2)
    rw [roomM, hm.1, h2] at h
    cases h
theorem norm_more {r : ReqM} {g h : List Int} (x y : List Int) (hn : NoRm r g h) : NoRm r (g ++ x) (h ++ y) := by
  obtain ⟨u, t, rfl, h1⟩ := hn
  exact ⟨u, t ++ y, rfl, room_more x h1⟩
theorem put_mem {p : List Int → Bool} {x : Int} : ∀ {l : List (List Int)} {g : List Int}, g ∈ putM p l x → g ∈ l ∨ (∃ c ∈ l, g = c ++ [x]) ∨ g = [x]
  | [], g, h => by rw [putM, List.mem_singleton] at h; exact .inr (.inr h)
  | b :: r, g, h => by
    rw [putM] at h
    split at h
    · rcases List.mem_cons.1 h with rfl | h
      · exact .inr (.inl ⟨b, List.mem_cons_self, rfl⟩)
      · exact .inl (List.mem_cons_of_mem _ h)
    · rcases List.mem_cons.1 h with rfl | h
      · exact .inl List.mem_cons_self
      · rcases put_mem h with h | ⟨c, hc, rfl⟩ | rfl
        · exact .inl (List.mem_cons_of_mem _ h)
        · exact .inr (.inl ⟨c, List.mem_cons_of_mem _ hc, rfl⟩)
        · exact .inr (.inr rfl)
theorem put_norm {r : ReqM} {x : Int} : ∀ {l : List (List Int)}, l.Pairwise (NoRm r) → (putM (fun g => roomM r g x) l x).Pairwise (NoRm r)
  | [], _ => by rw [putM]; exact List.pairwise_singleton _ _
  | b :: l, h => by
    obtain ⟨h1, h2⟩ := List.pairwise_cons.1 h
    rw [putM]
    split
    · refine List.pairwise_cons.2 ⟨fun c hc => ?_, h2⟩
      have := norm_more [x] [] (h1 c hc)
      rwa [List.append_nil] at this
    · rename_i hp
      refine List.pairwise_cons.2 ⟨fun c hc => ?_, put_norm h2⟩
      rcases put_mem hc with hc | ⟨d, hd, rfl⟩ | rfl
      · exact h1 c hc
      · have := norm_more [] [x] (h1 d hd)
        rwa [List.append_nil] at this
      · exact ⟨x, [], rfl, by simpa using hp⟩
theorem first_norm (r : ReqM) (us : List Int) : (firstM r us).Pairwise (NoRm r) := by
  rw [firstM, putAll]
  have : ∀ (l : List Int) (out : List (List Int)), out.Pairwise (NoRm r) → (l.foldl (fun out x => putM (fun g => roomM r g x) out x) out).Pairwise (NoRm r) := by
    intro l
    induction l with
    | nil => intro out h; exact h
    | cons x t ih => intro out h; rw [List.foldl_cons]; exact ih _ (put_norm h)
  exact this _ [] List.Pairwise.nil
theorem put_ne {p : List Int → Bool} {x : Int} {l : List (List Int)} (h : ∀ g ∈ l, g ≠ []) : ∀ g ∈ putM p l x, g ≠ [] := fun g hg => by
  rcases put_mem hg with hg | ⟨c, _, rfl⟩ | rfl
  · exact h g hg
  · simp
  · simp
theorem first_ne (r : ReqM) (us : List Int) : ∀ g ∈ firstM r us, g ≠ [] := by
  rw [firstM, putAll]
  exact fold_all (Q := fun g => g ≠ []) (fun x _ o ho => put_ne ho) (fun g hg => absurd hg List.not_mem_nil)
/-- Each list begins with a unit that finds no room in the list just ahead. -/
def Chn (r : ReqM) (l : List (List Int)) : Prop := ∀ (i : Nat) g h, l[i]? = some g → l[i + 1]? = some h → NoRm r g h
theorem last_chn {r : ReqM} {x : Int} {l : List (List Int)} (hl : Chn r l) : Chn r (lastM (fun g => roomM r g x) l x) := by
  rw [lastM]
  cases h : l.getLast? with
  | none =>
    have : l = [] := List.getLast?_eq_none_iff.1 h
    subst this
    intro i g h h1 h2
    simp at h2
  | some b =>
    obtain ⟨ys, rfl⟩ := List.getLast?_eq_some_iff.1 h
    dsimp only
    split
    · have e : (ys ++ [b]).set ((ys ++ [b]).length - 1) (b ++ [x]) = ys ++ [b ++ [x]] := by simp
      rw [e]
      intro i g c h1 h2
      have hi : i + 1 < ys.length + 1 := by have := (List.getElem?_eq_some_iff.1 h2).1; simpa using this
      rw [List.getElem?_append_left (by omega)] at h1
      rcases Nat.lt_or_ge (i + 1) ys.length with hlt | hge
      · rw [List.getElem?_append_left hlt] at h2
        exact hl i g c (by rw [List.getElem?_append_left (by omega)]; exact h1) (by rw [List.getElem?_append_left hlt]; exact h2)
      · rw [List.getElem?_append_right hge, show i + 1 - ys.length = 0 from by omega] at h2
        cases h2
        have := hl i g b (by rw [List.getElem?_append_left (by omega)]; exact h1) (by rw [List.getElem?_append_right hge, show i + 1 - ys.length = 0 from by omega]; rfl)
        have := norm_more [] [x] this
        rwa [List.append_nil] at this
    · rename_i hp
      intro i g c h1 h2
      have hi : i + 1 < ys.length + 1 + 1 := by have := (List.getElem?_eq_some_iff.1 h2).1; simpa using this
      rw [List.getElem?_append_left (by simp; omega)] at h1
      rcases Nat.lt_or_ge (i + 1) (ys ++ [b]).length with hlt | hge
      · rw [List.getElem?_append_left hlt] at h2
        exact hl i g c h1 h2
      · have hil : i = ys.length := by simp at hge; omega
        subst hil
        rw [List.getElem?_append_right (by simp)] at h2 h1 <;> simp at h1 h2
        subst h1 h2
        exact ⟨x, [], rfl, by simpa using hp⟩
theorem next_chn (r : ReqM) (us : List Int) : Chn r (nextM r us) := by
  rw [nextM, lastAll]
  have : ∀ (l : List Int) (out : List (List Int)), Chn r out → Chn r (l.foldl (fun out x => lastM (fun g => roomM r g x) out x) out) := by
    intro l
    induction l with
    | nil => intro out h; exact h
    | cons x t ih => intro out h; rw [List.foldl_cons]; exact ih _ (last_chn h)
  exact this _ [] (fun i g h h1 _ => by simp at h1)
end Go.Proofs.YtibkggjbkgdnkaaGreat

/-
  First fit and next fit have few cartons more than the best.
-/

namespace Go.Proofs.YtibkggjbkgdnkaaGreat
theorem sumL_flat {f : Int → Int} (g : List Int) (l : List (List Int)) : ((g :: l).flatten.map f).sum = (g.map f).sum + (l.flatten.map f).sum := by
  rw [List.flatten_cons, List.map_append, List.sum_append]
theorem mem_sumL {f : Int → Int} (hf : ∀ u, 0 ≤ f u) : ∀ {g : List Int} {u : Int}, u ∈ g → f u ≤ (g.map f).sum
  | x :: r, u, h => by
    have h1 := sum_ge0 hf r
    have h2 := hf x
    rw [List.map_cons, List.sum_cons]
    rcases List.mem_cons.1 h with rfl | h
    · omega
    · have := mem_sumL hf h; omega
/-- Lists of which each two neighbours have more than V or more than G. -/
theorem pairs_sum {f g : Int → Int} (hf : ∀ u, 0 ≤ f u) (hg : ∀ u, 0 ≤ g u) {V G : Int} : ∀ (l : List (List Int)), (∀ (i : Nat) a b, l[i]? = some a → l[i + 1]? = some b → V + 1 ≤ (a.map f).sum + (b.map f).sum ∨ G + 1 ≤ (a.map g).sum + (b.map g).sum) →
    ∃ p q : Nat, l.length ≤ 2 * (p + q) + 1 ∧ (V + 1) * p ≤ (l.flatten.map f).sum ∧ (G + 1) * q ≤ (l.flatten.map g).sum
  | [], _ => ⟨0, 0, by simp, by simp, by simp⟩
  | [a], _ => ⟨0, 0, by simp, by have := sum_ge0 hf a; simpa using this, by have := sum_ge0 hg a; simpa using this⟩
  | a :: b :: t, h => by
    obtain ⟨p, q, h1, h2, h3⟩ := pairs_sum hf hg t (fun i c d hc hd => h (i + 2) c d (by simpa using hc) (by simpa using hd))
    have h0 := h 0 a b rfl rfl
    have e1 := sumL_flat (f := f) a (b :: t)
    have e2 := sumL_flat (f := f) b t
    have e3 := sumL_flat (f := g) a (b :: t)
    have e4 := sumL_flat (f := g) b t
    have n1 := sum_ge0 hf a
    have n2 := sum_ge0 hf b
    have n3 := sum_ge0 hg a
    have n4 := sum_ge0 hg b
    rcases h0 with h0 | h0
    · refine ⟨p + 1, q, by simp only [List.length_cons]; omega, ?_, by omega⟩
      rw [Int.natCast_add, Int.mul_add]; omega
    · refine ⟨p, q + 1, by simp only [List.length_cons]; omega, by omega, ?_⟩
      rw [Int.natCast_add, Int.mul_add]; omega
theorem few_of_sum {V s : Int} {p n : Nat} (hV : 0 ≤ V) (hn : 1 ≤ n) (h1 : (V + 1) * p ≤ s) (h2 : s ≤ V * n) : p + 1 ≤ n := by
  rcases Nat.lt_or_ge p n with h | h
  · exact h
  · exfalso
    have h3 : V * (n : Int) ≤ V * p := Int.mul_le_mul_of_nonneg_left (by omega) hV
    rw [Int.add_mul, Int.one_mul] at h1
    omega
/-- A list's units find no room in g, and each of them is no greater than one of g. -/
def NoAll (r : ReqM) (f : Int → Int) (g h : List Int) : Prop := ∀ u ∈ h, roomM r g u = false ∧ ∃ y ∈ g, f u ≤ f y
theorem noAll_more {r : ReqM} {f : Int → Int} {g h : List Int} (x : List Int) (hn : NoAll r f g h) : NoAll r f (g ++ x) h := fun u hu => by
  obtain ⟨h1, y, hy, h2⟩ := hn u hu
  exact ⟨room_more x h1, y, List.mem_append_left _ hy, h2⟩
theorem put_noAll {r : ReqM} {f : Int → Int} {x : Int} : ∀ {l : List (List Int)}, l.Pairwise (NoAll r f) → (∀ g ∈ l, g ≠ [] ∧ ∀ y ∈ g, f x ≤ f y) → (putM (fun g => roomM r g x) l x).Pairwise (NoAll r f)
  | [], _, _ => by rw [putM]; exact List.pairwise_singleton _ _
  | b :: l, h, hl => by
    obtain ⟨h1, h2⟩ := List.pairwise_cons.1 h
    obtain ⟨hb1, hb2⟩ := hl b List.mem_cons_self
    rw [putM]
    split
    · exact List.pairwise_cons.2 ⟨fun c hc => noAll_more [x] (h1 c hc), h2⟩
    · rename_i hp
      have hx : roomM r b x = false ∧ ∃ y ∈ b, f x ≤ f y := by
        refine ⟨by simpa using hp, ?_⟩
        cases b with
        | nil => exact absurd rfl hb1
        | cons y t => exact ⟨y, List.mem_cons_self, hb2 y List.mem_cons_self⟩
      refine List.pairwise_cons.2 ⟨fun c hc => ?_, put_noAll h2 (fun g hg => hl g (List.mem_cons_of_mem _ hg))⟩
      rcases put_mem hc with hc | ⟨d, hd, rfl⟩ | rfl
      · exact h1 c hc
      · intro u hu
        rcases List.mem_append.1 hu with hu | hu
        · exact h1 d hd u hu
        · rw [List.mem_singleton.1 hu]; exact hx
      · intro u hu
        rw [List.mem_singleton.1 hu]; exact hx
theorem putAll_noAll {r : ReqM} {f : Int → Int} : ∀ (l : List Int) (out : List (List Int)), l.Pairwise (fun a b => f b ≤ f a) → out.Pairwise (NoAll r f) → (∀ g ∈ out, g ≠ [] ∧ ∀ y ∈ g, ∀ x ∈ l, f x ≤ f y) → (l.foldl (fun out x => putM (fun g => roomM r g x) out x) out).Pairwise (NoAll r f)
  | [], _, _, h, _ => h
  | x :: l, out, hs, h, ho => by
    obtain ⟨s1, s2⟩ := List.pairwise_cons.1 hs
    rw [List.foldl_cons]
    refine putAll_noAll l _ s2 (put_noAll h (fun g hg => ⟨(ho g hg).1, fun y hy => (ho g hg).2 y hy x List.mem_cons_self⟩)) (fun g hg => ?_)
    rcases put_mem hg with hg | ⟨c, hc, rfl⟩ | rfl
    · exact ⟨(ho g hg).1, fun y hy z hz => (ho g hg).2 y hy z (List.mem_cons_of_mem _ hz)⟩
    · refine ⟨by simp, fun y hy z hz => ?_⟩
      rcases List.mem_append.1 hy with hy | hy
      · exact (ho c hc).2 y hy z (List.mem_cons_of_mem _ hz)
      · rw [List.mem_singleton.1 hy]; exact s1 z hz
    · refine ⟨by simp, fun y hy z hz => ?_⟩
      rw [List.mem_singleton.1 hy]; exact s1 z hz
theorem ordU_desc (r : ReqM) (t : List Int) : (ordU r t).Pairwise (fun a b => vOf r b ≤ vOf r a) := by
  rw [ordU, List.pairwise_map]
  refine (ordM_srt (keyM (t.map (vOf r))) t.length).imp_of_mem (fun {i j} hi hj h => ?_)
  have hi2 := ordM_mem.1 hi
  have hj2 := ordM_mem.1 hj
  have ki : keyM (t.map (vOf r)) i = -(vOf r (t.getD i 0)) := keyM_get (by rw [List.getElem?_map, List.getD_eq_getElem?_getD, List.getElem?_eq_getElem hi2]; rfl)
  have kj : keyM (t.map (vOf r)) j = -(vOf r (t.getD j 0)) := keyM_get (by rw [List.getElem?_map, List.getD_eq_getElem?_getD, List.getElem?_eq_getElem hj2]; rfl)
  unfold bef at h
  omega
theorem first_noAll (r : ReqM) (us : List Int) : (firstM r us).Pairwise (NoAll r (vOf r)) := by
  rw [firstM, putAll]
  exact putAll_noAll _ [] (ordU_desc r _) List.Pairwise.nil (fun g hg => absurd hg List.not_mem_nil)
/-- No unit of h fits beside the units of g. -/
def NoFit (f : Int → Int) (V : Int) (g h : List Int) : Prop := ∀ u ∈ h, V + 1 ≤ (g.map f).sum + f u
theorem two_each {f : Int → Int} {V : Int} : ∀ (l : List (List Int)), (∀ g ∈ l, g ≠ []) → l.Pairwise (NoFit f V) → (∀ g ∈ l, ∀ u ∈ g, 2 * f u ≤ V) → 2 * l.length ≤ l.flatten.length + 1
  | [], _, _, _ => by simp
  | [g], h, _, _ => by
    have := List.length_pos_iff.2 (h g List.mem_cons_self)
    simp only [List.length_cons, List.length_nil, List.flatten_cons, List.flatten_nil, List.append_nil]; omega
  | g :: b :: t, h, hp, hs => by
    have ih := two_each (b :: t) (fun c hc => h c (List.mem_cons_of_mem _ hc)) (List.pairwise_cons.1 hp).2 (fun c hc => hs c (List.mem_cons_of_mem _ hc))
    have h2 : 2 ≤ g.length := by
      have hb := h b (by simp)
      cases b with
      | nil => exact absurd rfl hb
      | cons u s =>
        have hq := (List.pairwise_cons.1 hp).1 (u :: s) List.mem_cons_self u List.mem_cons_self
        have hu := hs (u :: s) (by simp) u List.mem_cons_self
        cases g with
        | nil => exact absurd rfl (h [] List.mem_cons_self)
        | cons x g2 =>
          cases g2 with
          | nil =>
            have hx := hs [x] List.mem_cons_self x List.mem_cons_self
            simp only [List.map_cons, List.map_nil, List.sum_cons, List.sum_nil] at hq
            omega
          | cons y g3 => simp only [List.length_cons]; omega
    rw [List.flatten_cons, List.length_append, List.length_cons]
    omega
theorem pair_off {f : Int → Int} (hf : ∀ u, 0 ≤ f u) {V : Int} : ∀ (l : List (List Int)) (m : List Int), l.length ≤ m.length → (∀ g ∈ l, NoFit f V g m) → (V + 1) * l.length ≤ (l.flatten.map f).sum + (m.map f).sum
  | [], m, _, _ => by have := sum_ge0 hf m; simpa using this
  | g :: l, [], h, _ => by simp at h
  | g :: l, u :: m, h, hn => by
    have ih := pair_off hf l m (by simpa using h) (fun c hc v hv => hn c (List.mem_cons_of_mem _ hc) v (List.mem_cons_of_mem _ hv))
    have h1 := hn g List.mem_cons_self u List.mem_cons_self
    rw [sumL_flat, List.length_cons, Int.natCast_add, Int.mul_add, List.map_cons, List.sum_cons]
    omega
theorem count_each {p : Int → Bool} : ∀ {l : List (List Int)}, (∀ g ∈ l, ∃ y ∈ g, p y = true) → l.length ≤ l.flatten.countP p
  | [], _ => by simp
  | g :: l, h => by
    have ih := count_each (fun c hc => h c (List.mem_cons_of_mem _ hc))
    obtain ⟨y, hy, h1⟩ := h g List.mem_cons_self
    have : 0 < g.countP p := List.countP_pos_iff.2 ⟨y, hy, h1⟩
    rw [List.flatten_cons, List.countP_append, List.length_cons]; omega
/-- Three halves. -/
theorem three_halves {f : Int → Int} (hf : ∀ u, 0 ≤ f u) {V : Int} (hV : 0 ≤ V) {n : Nat} (hn : 1 ≤ n) {F : List (List Int)} (hne : ∀ g ∈ F, g ≠ []) (hfit : F.Pairwise (NoFit f V)) (hdec : F.Pairwise (fun g h => ∀ u ∈ h, ∃ y ∈ g, f u ≤ f y)) (hsum : (F.flatten.map f).sum ≤ V * n) (hbig : F.flatten.countP (fun u => decide (2 * f u > V)) ≤ n) : 2 * F.length ≤ 3 * n := by
  rcases Nat.lt_or_ge (3 * n) (2 * F.length) with hlt | hge
  · exfalso
    have e : F.take n ++ F.drop n = F := List.take_append_drop n F
    have l1 : (F.take n).length = n := by rw [List.length_take]; omega
    have l2 : (F.drop n).length = F.length - n := List.length_drop
    rw [← e] at hfit hdec hsum hbig
    obtain ⟨_, f2, f3⟩ := List.pairwise_append.1 hfit
    obtain ⟨_, _, d3⟩ := List.pairwise_append.1 hdec
    rw [List.flatten_append] at hsum hbig
    rw [List.map_append, List.sum_append] at hsum
    rw [List.countP_append] at hbig
    by_cases hb : ∃ g ∈ F.drop n, ∃ u ∈ g, 2 * f u > V
    · obtain ⟨g, hg, u, hu, hx⟩ := hb
      have c1 := count_each (p := fun u => decide (2 * f u > V)) (l := F.take n) (fun c hc => by
        obtain ⟨y, hy, h⟩ := d3 c hc g hg u hu
        exact ⟨y, hy, by simp only [decide_eq_true_eq]; omega⟩)
      have c2 : 0 < (F.drop n).flatten.countP (fun u => decide (2 * f u > V)) := List.countP_pos_iff.2 ⟨u, List.mem_flatten.2 ⟨g, hg, hu⟩, by simp only [decide_eq_true_eq]; omega⟩
      omega
    · have ht := two_each (F.drop n) (fun g hg => hne g (List.mem_of_mem_drop hg)) f2 (fun g hg u hu => by
        by_cases h : 2 * f u > V
        · exact absurd ⟨g, hg, u, hu, h⟩ hb
        · omega)
      have hp := pair_off hf (V := V) (F.take n) (F.drop n).flatten (by omega) (fun g hg u hu => by
        obtain ⟨h, hh, hu2⟩ := List.mem_flatten.1 hu
        exact f3 g hg h hh u hu2)
      rw [l1, Int.add_mul, Int.one_mul] at hp
      omega
  · exact hge
theorem chn_of {r : ReqM} {l : List (List Int)} (h : l.Pairwise (NoRm r)) : Chn r l := fun i g c h1 h2 => by
  obtain ⟨hi, rfl⟩ := List.getElem?_eq_some_iff.1 h1
  obtain ⟨hj, rfl⟩ := List.getElem?_eq_some_iff.1 h2
  exact List.pairwise_iff_getElem.1 h i (i + 1) hi hj (by omega)
theorem no_over {r : ReqM} (hc : classM r = 0) {g : List Int} {u : Int} (h : roomM r g u = false) : volM (mst r).w (mst r).h (mst r).d + 1 ≤ (g.map (vOf r)).sum + vOf r u ∨ (mst r).g + 1 ≤ (g.map (gOf r)).sum + gOf r u := by
  rw [room_yes hc, holdsM, volUS, gramM, List.map_append, List.map_append, List.sum_append, List.sum_append] at h
  simp only [List.map_cons, List.map_nil, List.sum_cons, List.sum_nil] at h
  by_cases h1 : (g.map (vOf r)).sum + (vOf r u + 0) ≤ volM (mst r).w (mst r).h (mst r).d
  · by_cases h2 : (g.map (gOf r)).sum + (gOf r u + 0) ≤ (mst r).g
    · rw [decide_eq_true h1, decide_eq_true h2] at h; cases h
    · right; omega
  · left; omega
/-- What a packing without room has, beside any other. -/
theorem chain_few {r : ReqM} (hc : classM r = 0) {us : List Int} {F C : List (List Int)} (hch : Chn r F) (hF : F.flatten.Perm (thereM r us)) (hC : packM r us C = true) (hn : 1 ≤ C.length) : F.length ≤ 4 * C.length - 1 ∧ (gramM r us ≤ (mst r).g ∨ volUS r us ≤ volM (mst r).w (mst r).h (mst r).d → F.length ≤ 2 * C.length - 1) := by
  have hm := mst_ok hc
  have hmv := type_vol hm
  have hmg := type_in hm
  have hv0 : ∀ u, 0 ≤ vOf r u := fun u => (vOf_in r u).1
  have hg0 : ∀ u, 0 ≤ gOf r u := fun u => (gOf_in r u).1
  rw [packM] at hC
  simp only [Bool.and_eq_true, decide_eq_true_eq] at hC
  obtain ⟨_, ho, hs⟩ := hC
  have hp := hF.trans (sortM_eq.1 hs).symm
  rw [okCs, List.all_eq_true] at ho
  have hh : ∀ g ∈ C, volUS r g ≤ volM (mst r).w (mst r).h (mst r).d ∧ gramM r g ≤ (mst r).g := fun g hg => by
    have := ho g hg
    simp only [holdsM, Bool.and_eq_true, decide_eq_true_eq] at this
    exact this.2
  obtain ⟨p, q, h1, h2, h3⟩ := pairs_sum hv0 hg0 (V := volM (mst r).w (mst r).h (mst r).d) (G := (mst r).g) F (fun i a b ha hb => by
    obtain ⟨u, t, rfl, hr⟩ := hch i a b ha hb
    have k1 := mem_sumL hv0 (g := u :: t) List.mem_cons_self
    have k2 := mem_sumL hg0 (g := u :: t) List.mem_cons_self
    rcases no_over hc hr with h | h
    · left; omega
    · right; omega)
  have s1 : (F.flatten.map (vOf r)).sum ≤ volM (mst r).w (mst r).h (mst r).d * C.length := by
    rw [perm_sumL (hp.map (vOf r))]; exact flat_sum (fun g hg => (hh g hg).1)
  have s2 : (F.flatten.map (gOf r)).sum ≤ (mst r).g * C.length := by
    rw [perm_sumL (hp.map (gOf r))]; exact flat_sum (fun g hg => (hh g hg).2)
  have t1 : volUS r us = (F.flatten.map (vOf r)).sum := by
    rw [perm_sumL (hF.map (vOf r))]; exact there_sum (fun u hu => by rw [vOf, out_none hu]) us
  have t2 : gramM r us = (F.flatten.map (gOf r)).sum := by
    rw [perm_sumL (hF.map (gOf r))]; exact there_sum (fun u hu => by rw [gOf, out_none hu]) us
  have p1 := few_of_sum (by omega) hn h2 s1
  have q1 := few_of_sum (by omega) hn h3 s2
  refine ⟨by omega, fun hl => ?_⟩
  rcases hl with hl | hl
  · have := few_of_sum (n := 1) (by omega) (Nat.le_refl _) h3 (by omega)
    omega
  · have := few_of_sum (n := 1) (by omega) (Nat.le_refl _) h2 (by omega)
    omega
theorem first_three {r : ReqM} (hc : classM r = 0) {us : List Int} {C : List (List Int)} (hC : packM r us C = true) (hn : 1 ≤ C.length) (hl : gramM r us ≤ (mst r).g) : 2 * (firstM r us).length ≤ 3 * C.length := by
  have hm := mst_ok hc
  have hmv := type_vol hm
  have hv0 : ∀ u, 0 ≤ vOf r u := fun u => (vOf_in r u).1
  have hg0 : ∀ u, 0 ≤ gOf r u := fun u => (gOf_in r u).1
  have hF : (firstM r us).flatten.Perm (thereM r us) := (putAll_perm _ _).trans (ordU_perm r _)
  rw [packM] at hC
  simp only [Bool.and_eq_true, decide_eq_true_eq] at hC
  obtain ⟨_, ho, hs⟩ := hC
  have hp := hF.trans (sortM_eq.1 hs).symm
  rw [okCs, List.all_eq_true] at ho
  have hh : ∀ g ∈ C, volUS r g ≤ volM (mst r).w (mst r).h (mst r).d := fun g hg => by
    have := ho g hg
    simp only [holdsM, Bool.and_eq_true, decide_eq_true_eq] at this
    exact this.2.1
  have t2 : gramM r us = ((firstM r us).flatten.map (gOf r)).sum := by
    rw [perm_sumL (hF.map (gOf r))]; exact there_sum (fun u hu => by rw [gOf, out_none hu]) us
  have hall := first_noAll r us
  refine three_halves hv0 (V := volM (mst r).w (mst r).h (mst r).d) (by omega) hn (first_ne r us) ?_ (hall.imp (fun h u hu => (h u hu).2)) (by rw [perm_sumL (hp.map (vOf r))]; exact flat_sum hh) (by rw [hp.countP_eq]; exact flat_count (fun g hg => one_wide hv0 (by omega) (hh g hg)))
  rw [List.pairwise_iff_getElem] at hall ⊢
  intro i j hi hj hij u hu
  rcases no_over hc (hall i j hi hj hij u hu).1 with h | h
  · exact h
  · exfalso
    have e : (firstM r us).take j ++ (firstM r us).drop j = firstM r us := List.take_append_drop j _
    have ed : (firstM r us).drop j = (firstM r us)[j] :: (firstM r us).drop (j + 1) := List.drop_eq_getElem_cons hj
    have e2 := congrArg (fun l => (l.flatten.map (gOf r)).sum) e
    rw [List.flatten_append, List.map_append, List.sum_append, ed, sumL_flat] at e2
    have hmem : (firstM r us)[i] ∈ (firstM r us).take j := List.mem_take_iff_getElem.2 ⟨i, by omega, rfl⟩
    obtain ⟨A, B, hAB⟩ := List.append_of_mem hmem
    rw [hAB, List.flatten_append, List.map_append, List.sum_append, sumL_flat] at e2
    have k1 := mem_sumL hg0 hu
    have n1 := sum_ge0 hg0 A.flatten
    have n2 := sum_ge0 hg0 B.flatten
    have n3 := sum_ge0 hg0 ((firstM r us).drop (j + 1)).flatten
    omega
theorem first_len48 (r : ReqM) (us : List Int) : (firstM r us).length ≤ us.length := by rw [firstM]; exact Nat.le_trans (putAll_len _ _) (by rw [ordU_len]; exact thereM_len r us)
theorem next_len48 (r : ReqM) (us : List Int) : (nextM r us).length ≤ us.length := by rw [nextM]; exact Nat.le_trans (lastAll_len _ _) (thereM_len r us)
/-- The bounds of FnRatio. -/
theorem ratio_facts {r : ReqM} {us : List Int} (h1 : ¬ bestM r us < 1) : classM r = 0 ∧ (firstM r us).length ≤ 4 * bestM r us - 1 ∧ (nextM r us).length ≤ 4 * bestM r us - 1 ∧ bestM r us ≤ (firstM r us).length ∧ bestM r us ≤ (nextM r us).length ∧ ((gramM r us ≤ (mst r).g ∨ volUS r us ≤ volM (mst r).w (mst r).h (mst r).d) → (firstM r us).length ≤ 2 * bestM r us - 1 ∧ (nextM r us).length ≤ 2 * bestM r us - 1) ∧ (gramM r us ≤ (mst r).g → 2 * (firstM r us).length ≤ 3 * bestM r us) := by
  rw [bestM] at h1 ⊢
  split at h1
  · rename_i h0
    have hc := h0.1
    rw [if_pos h0]
    obtain ⟨C, e, hC⟩ := best_is (us := us) hc
    have b1 := best_le (first_pack hc us)
    have b2 := best_le (next_pack hc us)
    have hF : (firstM r us).flatten.Perm (thereM r us) := (putAll_perm _ _).trans (ordU_perm r _)
    have hN : (nextM r us).flatten.Perm (thereM r us) := lastAll_perm _ _
    obtain ⟨f1, f2⟩ := chain_few hc (chn_of (first_norm r us)) hF hC (by omega)
    obtain ⟨g1, g2⟩ := chain_few hc (next_chn r us) hN hC (by omega)
    refine ⟨hc, by omega, by omega, by omega, by omega, fun h => ?_, fun h => ?_⟩
    · have := f2 h; have := g2 h; omega
    · have := first_three hc hC (by omega) h; omega
  · omega
theorem ratio_none {r : ReqM} {us : List Int} (h1 : bestM r us < 1) : bestM r us = -1 ∨ (firstM r us).length = 0 := by
  rw [bestM] at h1 ⊢
  split at h1
  · rename_i h0
    right
    obtain ⟨C, e, hC⟩ := best_is (us := us) h0.1
    have hz : C.length = 0 := by omega
    have hC0 := List.length_eq_zero_iff.1 hz
    subst hC0
    rw [packM] at hC
    simp only [Bool.and_eq_true, decide_eq_true_eq] at hC
    have hp := (sortM_eq.1 hC.2.2)
    have : thereM r us = [] := List.length_eq_zero_iff.1 (by have := hp.length_eq; simpa using this.symm)
    rw [firstM, this]
    have := ordU_len r []
    rw [List.length_eq_zero_iff.1 this]; rfl
  · rename_i h0
    left; rw [if_neg h0]
end Go.Proofs.YtibkggjbkgdnkaaGreat
