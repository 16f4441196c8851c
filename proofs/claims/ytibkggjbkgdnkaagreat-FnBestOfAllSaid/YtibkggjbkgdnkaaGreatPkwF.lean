/-
  Texts of this proof, one behind the other: BestM, BestW, BestX, BestI, BestL, LowLaw, FewLaw.
-/
import Derived.Test.YtibkggjbkgdnkaaGreatPkwD
import Derived.Test.YtibkggjbkgdnkaaGreatPkwC
import Derived.Test.YtibkggjbkgdnkaaGreatPkwB
import Derived.Test.YtibkggjbkgdnkaaGreatPkwE
set_option linter.unusedVariables false
set_option linter.unusedSimpArgs false

/-
  The fewest cartons: a search through all ways. No program is in sight here.
-/
namespace Go.Proofs.YtibkggjbkgdnkaaGreat
open Go.RowKit
section
variable {α β : Type}
def stepB (p : α → β → Bool) (add : α → β → α) (f : List α → Nat) (u : β) (L : List α) (b i : Nat) : Nat := match L[i]? with
  | some l => if p l u then min b (f (L.set i (add l u))) else b
  | none => b
/-- The fewest lists that t may be put into, behind those of L. -/
def fewM (p : α → β → Bool) (add : α → β → α) (one : β → α) : List β → List α → Nat
  | [], L => L.length
  | u :: t, L => (List.range L.length).foldl (stepB p add (fewM p add one t) u L) (fewM p add one t (L ++ [one u]))
variable {p : α → β → Bool} {add : α → β → α} {one : β → α}
theorem stepB_min (f : List α → Nat) (u : β) (L : List α) (a b i : Nat) : stepB p add f u L (min a b) i = min a (stepB p add f u L b i) := by
  unfold stepB
  split
  · split <;> omega
  · rfl
theorem foldB_min (f : List α → Nat) (u : β) (L : List α) : ∀ (is : List Nat) (a b : Nat), is.foldl (stepB p add f u L) (min a b) = min a (is.foldl (stepB p add f u L) b)
  | [], _, _ => rfl
  | i :: r, a, b => by rw [List.foldl_cons, List.foldl_cons, stepB_min, foldB_min f u L r]
theorem few_ge : ∀ (t : List β) (L : List α), L.length ≤ fewM p add one t L
  | [], L => Nat.le_refl _
  | u :: t, L => by
    have h0 : L.length ≤ fewM p add one t (L ++ [one u]) := by have := few_ge t (L ++ [one u]); simp at this; omega
    have hs : ∀ (is : List Nat) (b : Nat), L.length ≤ b → L.length ≤ is.foldl (stepB p add (fewM p add one t) u L) b := by
      intro is
      induction is with
      | nil => intro b h; exact h
      | cons i r ih =>
        intro b h
        rw [List.foldl_cons]
        refine ih _ ?_
        unfold stepB
        split
        · rename_i l hl
          split
          · have := few_ge t (L.set i (add l u)); rw [List.length_set] at this; omega
          · exact h
        · exact h
    exact hs _ _ h0
theorem few_le : ∀ (t : List β) (L : List α), fewM p add one t L ≤ L.length + t.length
  | [], L => Nat.le_refl _
  | u :: t, L => by
    have h0 := few_le t (L ++ [one u])
    have e := foldB_min (p := p) (add := add) (fewM p add one t) u L (List.range L.length) (fewM p add one t (L ++ [one u])) (fewM p add one t (L ++ [one u]))
    rw [Nat.min_self] at e
    rw [fewM, e]
    simp only [List.length_append, List.length_cons, List.length_nil] at h0 ⊢
    omega
variable (p add one)
/-- What a search has found when i places have been tried. -/
def triedB (t : List β) (u : β) (L : List α) (b i : Nat) : Nat := (List.range i).foldl (stepB p add (fewM p add one t) u L) b
variable {p add one}
variable {t : List β} {u : β} {L : List α} {b : Nat}
theorem tried_next {i : Nat} : triedB p add one t u L b (i + 1) = stepB p add (fewM p add one t) u L (triedB p add one t u L b i) i := by
  rw [triedB, List.range_succ, List.foldl_append]; rfl
theorem tried_yes {i : Nat} {l : α} (hl : L[i]? = some l) (h : p l u = true) : triedB p add one t u L b (i + 1) = min (triedB p add one t u L b i) (fewM p add one t (L.set i (add l u))) := by
  rw [tried_next, stepB, hl]; simp only [h, if_true]
theorem tried_no {i : Nat} {l : α} (hl : L[i]? = some l) (h : p l u = false) : triedB p add one t u L b (i + 1) = triedB p add one t u L b i := by
  rw [tried_next, stepB, hl]; simp only [h]; rfl
theorem tried_all : min (triedB p add one t u L b L.length) (fewM p add one t (L ++ [one u])) = min b (fewM p add one (u :: t) L) := by
  have h1 := foldB_min (p := p) (add := add) (fewM p add one t) u L (List.range L.length) b (fewM p add one t (L ++ [one u]))
  have h2 := foldB_min (p := p) (add := add) (fewM p add one t) u L (List.range L.length) (fewM p add one t (L ++ [one u])) b
  rw [Nat.min_comm] at h2
  rw [fewM, ← h1, h2, triedB, Nat.min_comm]
theorem tried_skip (h : ¬ L.length + 1 < triedB p add one t u L b L.length) : triedB p add one t u L b L.length = min b (fewM p add one (u :: t) L) := by
  rw [← tried_all]
  have := few_ge (p := p) (add := add) (one := one) t (L ++ [one u])
  simp only [List.length_append, List.length_cons, List.length_nil] at this
  omega
theorem tried_le : ∀ i, triedB p add one t u L b i ≤ b
  | 0 => Nat.le_refl _
  | i + 1 => by
    have := tried_le i
    rw [tried_next]; unfold stepB
    split
    · split <;> omega
    · exact this
end
/-- A search among loads is one among what they are the loads of. -/
theorem few_hom {α β α' β' : Type} {p : α → β → Bool} {add : α → β → α} {one : β → α} {p' : α' → β' → Bool} {add' : α' → β' → α'} {one' : β' → α'} (f : α → α') (g : β → β') (hp : ∀ l u, p l u = p' (f l) (g u)) (ha : ∀ l u, f (add l u) = add' (f l) (g u)) (ho : ∀ u, f (one u) = one' (g u)) :
    ∀ (t : List β) (L : List α), fewM p' add' one' (t.map g) (L.map f) = fewM p add one t L
  | [], L => by simp only [List.map_nil, fewM, List.length_map]
  | u :: t, L => by
    have e : stepB p' add' (fewM p' add' one' (t.map g)) (g u) (L.map f) = stepB p add (fewM p add one t) u L := by
      funext b i
      unfold stepB
      rw [List.getElem?_map]
      cases hL : L[i]? with
      | none => rfl
      | some l =>
        simp only [Option.map_some]
        rw [← hp, ← ha, ← List.map_set, few_hom f g hp ha ho t]
    rw [List.map_cons, fewM, fewM, e, List.length_map, ← ho, ← few_hom f g hp ha ho t (L ++ [one u]), List.map_append]; rfl
/-- The fewest cartons that units may be put into, behind those of L. -/
def fewU (r : ReqM) (t : List Int) (L : List (List Int)) : Nat := fewM (roomM r) (fun l u => l ++ [u]) (fun u => [u]) t L
/-- The fewest cartons of some units; -1 where there are too many to try. -/
def bestM (r : ReqM) (us : List Int) : Int := if classM r = 0 ∧ (thereM r us).length ≤ 8 then (fewU r (thereM r us) [] : Int) else -1
end Go.Proofs.YtibkggjbkgdnkaaGreat

/-
  The fewest cartons: the reference's way.
-/
namespace Go.Proofs.YtibkggjbkgdnkaaGreat
open Go.RowKit
attribute [local irreducible] Go.wpList Go.Code.wp Go.Exit.then Go.Exit.inBlock Go.bodyPost Go.Calls pE pB G RunsV FnV Fn FnM
set_option maxRecDepth 100000
set_option maxHeartbeats 4000000
abbrev LdM := Int × Int
def ldCell (x : LdM) : List Value := [.int .i64 x.1, .int .i64 x.2]
def ldRoom (V Gm : Int) (a b : LdM) : Bool := decide (a.1 + b.1 ≤ V) && decide (a.2 + b.2 ≤ Gm)
def ldAdd (a b : LdM) : LdM := (a.1 + b.1, a.2 + b.2)
def fewL (V Gm : Int) (t L : List LdM) : Nat := fewM (ldRoom V Gm) ldAdd id t L
def ldIn (n : Nat) (x : LdM) : Prop := 0 ≤ x.1 ∧ x.1 ≤ 8000000000 * n ∧ 0 ≤ x.2 ∧ x.2 ≤ 8000000000 * n
theorem ldIn.add {n m : Nat} {a b : LdM} (h : ldIn n a) (h2 : ldIn m b) : ldIn (n + m) (ldAdd a b) := by
  simp only [ldIn, ldAdd] at *; omega
theorem ldIn.le {n m : Nat} {a : LdM} (h : ldIn n a) (h2 : n ≤ m) : ldIn m a := by
  simp only [ldIn] at *; omega
theorem ld_set {L : List LdM} {i : Nat} {a b : LdM} : (L.map ldCell).set i [.int .i64 (a.1 + b.1), .int .i64 (a.2 + b.2)] = (L.set i (ldAdd a b)).map ldCell := by
  rw [List.map_set]; rfl
theorem set_self {α : Type} {l : List α} {i : Nat} {x : α} (h : l[i]? = some x) : l.set i x = l := by
  obtain ⟨h1, rfl⟩ := List.getElem?_eq_some_iff.1 h
  exact List.set_getElem_self h1
theorem ld_back {L : List LdM} {i : Nat} {a b : LdM} (h : L[i]? = some a) : (((L.set i (ldAdd a b)).map ldCell).set i [.int .i64 a.1, .int .i64 a.2]) = L.map ldCell := by
  have e : (L.set i (ldAdd a b)).set i a = L := by rw [List.set_set]; exact set_self h
  rw [← congrArg (List.map ldCell) e, List.map_set (l := L.set i (ldAdd a b))]; rfl
theorem ld_push {L : List LdM} {b : LdM} : L.map ldCell ++ [[.int .i64 b.1, .int .i64 b.2]] = (L ++ [b]).map ldCell := by rw [List.map_append]; rfl
theorem ld_cut {L : List LdM} {b : LdM} : ((L ++ [b]).map ldCell).take (L.map ldCell).length = L.map ldCell := by
  rw [List.map_append, List.take_left' rfl]
theorem G.cutE {n : Nat} {w0 : World} {fr : Fr} {H F : List Ch} {v : Value} {t : TypeId} {s : Nat} {es es' : List (List Value)} (k : Nat) {K : Act → World → Prop} (hk : k ≤ es.length) (e : es.take k = es') (hH : H = .row v t s es :: F) (h : G n w0 fr (.row (subV v s 0 k) t s es' :: F) K) : G n w0 fr H K := by
  subst e; exact G.cutRow k hk hH h
abbrev trL (V Gm : Int) (t : List LdM) (x : LdM) (L : List LdM) (b k : Nat) : Nat := triedB (ldRoom V Gm) ldAdd id t x L b k
def TryOk (w0 : World) (q : Nat) (iv : Value) (I : List LdM) (V Gm : Int) (m : Nat) : Prop := ∀ (F : List Ch) (i : Nat) (L : List LdM) (best : Nat) (lv : Value), i + m = I.length → (∀ w, HeapOk w0 w F → Rd w iv 2 (I.map ldCell)) → L.length ≤ i → (∀ a ∈ L, ldIn i a) → best ≤ 9 →
    FnMF Tryz.prog 122 [pB q 0, .int .i64 (i : Int)] w0 [.blk q 128 [iv, .int .i64 V, .int .i64 Gm, lv, .int .i64 (best : Int)], .row lv 112 2 (L.map ldCell)] F
      (fun x : Value => x.oneCell' = true) (fun _ => .tuple #[]) (fun x => [.blk q 128 [iv, .int .i64 V, .int .i64 Gm, x, .int .i64 ((min best (fewL V Gm (I.drop i) L) : Nat) : Int)], .row x 112 2 (L.map ldCell)])
theorem l8Try_step {w0 : World} {q : Nat} {iv : Value} {I : List LdM} {V Gm : Int} (hI0 : ∀ b ∈ I, ldIn 1 b) (hIl : I.length ≤ 8) (m : Nat) (ih : ∀ m', m = m' + 1 → TryOk w0 q iv I V Gm m') : TryOk w0 q iv I V Gm m := by
  intro F i L best lv him hI hLi hL hbest
  refine FnMF.of (n := 136) Tryz.func122 rfl rfl ?_; refine G.know (fun w hw => (Rd.owned 1 rfl w hw).one_) (fun hone => ?_)
  have hio : iv.oneCell' = true ∨ True := .inr trivial
  refine G.seq (G.seq ?_); refine G.drawL [] ?_; refine GE.q 0 rfl (by as_aux_lemma => kernel_rfl) rfl (qg_runs (rv_move rfl)) rfl ?_; refine GE.q 1 rfl (by as_aux_lemma => kernel_rfl) rfl (qg_runs (rv_nilCheckB rfl)) rfl ?_; refine GE.q 2 rfl (by as_aux_lemma => kernel_rfl) rfl (qg_runs (rv_field rfl)) rfl ?_; refine GE.q 3 rfl (by as_aux_lemma => kernel_rfl) rfl (qg_runs (rv_load1 0 rfl rfl rfl)) rfl ?_; refine GE.q 4 rfl (by as_aux_lemma => kernel_rfl) rfl (qg_runs (rv_len rfl (by exact Rd.owned 1 rfl))) rfl ?_; refine GE.ol 5 (by as_aux_lemma => kernel_rfl) rfl rfl (og_runs (rv_move rfl)) rfl (fun _ _ h => by exact h) (fun _ _ => ?_); refine GE.ol 6 (by as_aux_lemma => kernel_rfl) rfl rfl (og_runs (rv_nilCheckB rfl)) rfl (fun _ _ h => by exact h) (fun _ _ => ?_); refine GE.ol 7 (by as_aux_lemma => kernel_rfl) rfl rfl (og_runs (rv_field rfl)) rfl (fun _ _ h => by exact h) (fun _ _ => ?_); refine GE.ol 8 (by as_aux_lemma => kernel_rfl) rfl rfl (og_runs (rv_load1 0 rfl rfl rfl)) rfl (fun _ _ h => by exact h) (fun _ _ => ?_); refine GE.ol 9 (by as_aux_lemma => kernel_rfl) rfl rfl (og_runs (rv_geq rfl rfl)) rfl (fun _ _ h => by exact h) (fun _ _ => ?_); refine GE.done (by as_aux_lemma => kernel_rfl) ?_; refine G.thenN ?_; refine G.cond rfl (fun hc => ?_) (fun hc => ?_)
  · try exact Bool.noConfusion hc
    all_goals
     try replace hc := of_decide_eq_true hc
     try simp only [List.length_map] at hc
     try (exfalso; contradiction)
     all_goals
      refine G.ret (G.thenR ?_)
      (refine G.retF0 lv hone rfl rfl (fun w hw => ?_); rw [show min best (fewL V Gm (I.drop i) L) = best from Nat.min_eq_left (Nat.le_trans (by omega) (few_ge _ _))]; exact hw)
  · try exact Bool.noConfusion hc
    all_goals
     try replace hc := of_decide_eq_false hc
     try simp only [List.length_map] at hc
     try (exfalso; contradiction)
     all_goals
      refine G.skip (G.thenN (G.seq (G.seq (G.region (G.v (rv_move rfl) rfl (G.v (rv_move rfl) rfl (G.v (rv_nilCheckB rfl) rfl (G.v (rv_field rfl) rfl (G.v (rv_load1 0 rfl rfl rfl) rfl ?_))))))))); refine G.v (rv_len rfl (by exact (fun w hh => hI w (hh.drop 2)))) rfl ?_; refine G.v (rv_eql rfl rfl) rfl (G.done (G.thenN ?_)); refine G.cond rfl (fun hc => ?_) (fun hc => ?_)
      · try exact Bool.noConfusion hc
        all_goals
         try replace hc := of_decide_eq_true hc
         try simp only [List.length_map] at hc
         try (exfalso; contradiction)
         all_goals
          have hdr : I.drop i = [] := List.drop_eq_nil_of_le (by omega)
          all_goals
           refine G.seq (G.region (G.v (rv_move rfl) rfl (G.v (rv_move rfl) rfl (G.v (rv_nilCheckB rfl) rfl (G.v (rv_field rfl) rfl (G.v (rv_load1 0 rfl rfl rfl) rfl ?_)))))); refine G.v (rv_len rfl (by exact Rd.owned 1 rfl)) rfl ?_; refine G.v (rv_nilCheckB rfl) rfl (G.v (rv_field rfl) rfl ?_); refine G.op0 (og_st0 rfl rfl rfl rfl rfl rfl (.succ (.succ (.succ (.succ (.zero (.cons .nil))))))) (fun _ _ => ?_); refine G.done (G.thenN (G.ret (G.thenR ?_)))
           (refine G.retF0 lv hone rfl rfl (fun w hw => ?_); rw [hdr, show min best (fewL V Gm [] L) = (L.map ldCell).length by rw [List.length_map]; show min best L.length = L.length; omega]; exact hw)
      · try exact Bool.noConfusion hc
        all_goals
         try replace hc := of_decide_eq_false hc
         try simp only [List.length_map] at hc
         try (exfalso; contradiction)
         all_goals
          obtain ⟨m', hm'⟩ : ∃ m', m = m' + 1 := ⟨m - 1, by omega⟩
          obtain ⟨x, hx⟩ := get_of_lt (l := I) (k := i) (by omega)
          have heI := get_map hx ldCell
          have hxi := hI0 x (List.mem_of_getElem? hx)
          have hxi2 := hxi
          simp only [ldIn] at hxi2
          have hdr : I.drop i = x :: I.drop (i + 1) := (by obtain ⟨h1, rfl⟩ := List.getElem?_eq_some_iff.1 hx; exact List.drop_eq_getElem_cons h1)
          all_goals
           refine G.skip (G.thenN (G.seq (G.region (G.v (rv_move rfl) rfl (G.v (rv_nilCheckB rfl) rfl (G.v (rv_field rfl) rfl (G.v (rv_load1 0 rfl rfl rfl) rfl (G.v (rv_move rfl) rfl ?_)))))))); refine G.v (rv_indexH rfl rfl (by exact (fun w hh => hI w (hh.drop 2))) rfl (by exact heI)) rfl ?_; refine G.v (rv_loadEW rfl (by exact (fun w hh => hI w (hh.drop 2))) (by exact heI) rfl) rfl ?_; refine G.op (og_alloc) rfl (fun bk4 _ => ?_); refine G.op0 (og_st0 rfl rfl rfl rfl rfl rfl (.zero (.cons (.cons .nil)))) (fun _ _ => ?_); refine G.done (G.thenN (G.seq (G.seq (G.region (G.v (rv_assign rfl) rfl (G.done (G.thenN (G.block ?_))))))))
           -- loop 0: turned [5], kept [0, 1, 4]
           refine G.frontR2 lv rfl ?_; refine G.frontB2 q rfl ?_; refine G.loopK (ι := Nat × Value) (ks := [0, 1, 4]) (fun y => [(5, .int .i64 (y.1 : Int))]) (fun y => [.blk q 128 [iv, .int .i64 V, .int .i64 Gm, y.2, .int .i64 ((trL V Gm (I.drop (i + 1)) x L best y.1 : Nat) : Int)], .row y.2 112 2 (L.map ldCell)]) (fun y => y.1 ≤ L.length ∧ y.2.oneCell' = true) (fun y => L.length - y.1) (0, lv) (.cons rfl (.cons rfl (.cons rfl (.nil)))) rfl ?_ ?_ ?_
           · exact ⟨Nat.zero_le _, hone⟩
           · exact ⟨rfl, trivial⟩
           rintro ⟨k, lv1⟩ ⟨hk, hlv1⟩
           dsimp only at hk hlv1 ⊢
           by_cases hlt : k < L.length
           case' pos => (obtain ⟨a, hk9⟩ := get_of_lt hlt; have hea := get_map hk9 ldCell; have ha9 := hL a (List.mem_of_getElem? hk9); have he3 : ((L.set k (ldAdd a x)).map ldCell)[k]? = some (ldCell (ldAdd a x)) := get_map (get_set1 hk9) ldCell; have ha2 := ha9; simp only [ldIn] at ha2)
           case' neg => (have hkL : k = L.length := (by omega))
           all_goals
            refine G.seq (G.seq (G.region (G.v (rv_move rfl) rfl (G.v (rv_move rfl) rfl (G.v (rv_nilCheckB rfl) rfl (G.v (rv_field rfl) rfl (G.v (rv_load1 0 rfl rfl rfl) rfl ?_))))))); refine G.v (rv_len rfl (by exact Rd.owned 1 rfl)) rfl ?_; refine G.v (rv_lss rfl rfl) rfl (G.done (G.thenN ?_)); refine G.cond rfl (fun hc => ?_) (fun hc => ?_)
            · try exact Bool.noConfusion hc
              all_goals
               try replace hc := of_decide_eq_true hc
               try simp only [List.length_map] at hc
               try (exfalso; omega)
               all_goals
                refine G.skip (G.thenN (G.seq (G.block (G.seq (G.region (G.v (rv_move rfl) rfl (G.v (rv_nilCheckB rfl) rfl (G.v (rv_field rfl) rfl (G.v (rv_load1 0 rfl rfl rfl) rfl (G.v (rv_move rfl) rfl ?_)))))))))); refine G.v (rv_indexH rfl rfl (by exact Rd.owned 1 rfl) rfl (by exact hea)) rfl ?_; refine G.v (rv_loadEW rfl (by exact Rd.owned 1 rfl) (by exact hea) rfl) rfl ?_; refine G.op (og_alloc) rfl (fun bk6 _ => ?_); refine G.op0 (og_st0 rfl rfl rfl rfl rfl rfl (.zero (.cons (.cons .nil)))) (fun _ _ => ?_); refine G.done (G.thenN (G.seq ?_)); refine G.drawL [] ?_; refine GE.q 0 rfl (by as_aux_lemma => kernel_rfl) rfl (qg_runs (rv_field rfl)) rfl ?_; refine GE.q 1 rfl (by as_aux_lemma => kernel_rfl) rfl (qg_runs (rv_load1 0 rfl rfl rfl)) rfl ?_; refine GE.q 2 rfl (by as_aux_lemma => kernel_rfl) rfl (qg_runs (rv_field rfl)) rfl ?_; refine GE.q 3 rfl (by as_aux_lemma => kernel_rfl) rfl (qg_runs (rv_load1 3 rfl rfl rfl)) rfl ?_; refine GE.q 4 rfl (by as_aux_lemma => kernel_rfl) rfl (qg_runs (rv_addB rfl rfl (by omega) (by omega))) rfl ?_; refine GE.ol 5 (by as_aux_lemma => kernel_rfl) rfl rfl (og_runs (rv_move rfl)) rfl (fun _ _ h => by exact h) (fun _ _ => ?_); refine GE.ol 6 (by as_aux_lemma => kernel_rfl) rfl rfl (og_runs (rv_nilCheckB rfl)) rfl (fun _ _ h => by exact h) (fun _ _ => ?_)
                refine GE.ol 7 (by as_aux_lemma => kernel_rfl) rfl rfl (og_runs (rv_field rfl)) rfl (fun _ _ h => by exact h) (fun _ _ => ?_); refine GE.ol 8 (by as_aux_lemma => kernel_rfl) rfl rfl (og_runs (rv_field rfl)) rfl (fun _ _ h => by exact h) (fun _ _ => ?_); refine GE.ol 9 (by as_aux_lemma => kernel_rfl) rfl rfl (og_runs (rv_load1 1 rfl rfl rfl)) rfl (fun _ _ h => by exact h) (fun _ _ => ?_); refine GE.ol 10 (by as_aux_lemma => kernel_rfl) rfl rfl (og_runs (rv_leq rfl rfl)) rfl (fun _ _ h => by exact h) (fun _ _ => ?_); refine GE.ol 11 (by as_aux_lemma => kernel_rfl) rfl rfl (og_runs (rv_move rfl)) rfl (fun _ _ h => by exact h) (fun _ _ => ?_)
                all_goals (((with_reducible refine GE.part (t := 67) rfl (fun hg => ?_) (fun hg => ?_)) <;> (try exact Bool.noConfusion hg) <;> (first | (refine GE.q 12 rfl (by as_aux_lemma => kernel_rfl) rfl (qg_runs (rv_field rfl)) rfl ?_) | refine GE.qn 12 rfl (by as_aux_lemma => kernel_rfl) rfl rfl ?_)))
                all_goals ((first | (refine GE.q 13 rfl (by as_aux_lemma => kernel_rfl) rfl (qg_runs (rv_load1 0 rfl rfl rfl)) rfl ?_) | refine GE.qn 13 rfl (by as_aux_lemma => kernel_rfl) rfl rfl ?_))
                all_goals ((first | (refine GE.q 14 rfl (by as_aux_lemma => kernel_rfl) rfl (qg_runs (rv_field rfl)) rfl ?_) | refine GE.qn 14 rfl (by as_aux_lemma => kernel_rfl) rfl rfl ?_))
                all_goals ((first | (refine GE.q 15 rfl (by as_aux_lemma => kernel_rfl) rfl (qg_runs (rv_load1 3 rfl rfl rfl)) rfl ?_) | refine GE.qn 15 rfl (by as_aux_lemma => kernel_rfl) rfl rfl ?_))
                all_goals ((first | refine GE.q 16 rfl (by as_aux_lemma => kernel_rfl) rfl (qg_runs (rv_addB rfl rfl (by omega) (by omega))) rfl ?_ | refine GE.qn 16 rfl (by as_aux_lemma => kernel_rfl) rfl rfl ?_))
                all_goals ((first | refine GE.q 17 rfl (by as_aux_lemma => kernel_rfl) rfl (qg_runs (rv_move rfl)) rfl ?_ | refine GE.qn 17 rfl (by as_aux_lemma => kernel_rfl) rfl rfl ?_))
                all_goals ((first | (refine GE.q 18 rfl (by as_aux_lemma => kernel_rfl) rfl (qg_runs (rv_nilCheckB rfl)) rfl ?_) | refine GE.qn 18 rfl (by as_aux_lemma => kernel_rfl) rfl rfl ?_))
                all_goals ((first | (refine GE.q 19 rfl (by as_aux_lemma => kernel_rfl) rfl (qg_runs (rv_field rfl)) rfl ?_) | refine GE.qn 19 rfl (by as_aux_lemma => kernel_rfl) rfl rfl ?_))
                all_goals ((first | (refine GE.q 20 rfl (by as_aux_lemma => kernel_rfl) rfl (qg_runs (rv_field rfl)) rfl ?_) | refine GE.qn 20 rfl (by as_aux_lemma => kernel_rfl) rfl rfl ?_))
                all_goals ((first | (refine GE.q 21 rfl (by as_aux_lemma => kernel_rfl) rfl (qg_runs (rv_load1 1 rfl rfl rfl)) rfl ?_) | refine GE.qn 21 rfl (by as_aux_lemma => kernel_rfl) rfl rfl ?_))
                all_goals ((first | refine GE.q 22 rfl (by as_aux_lemma => kernel_rfl) rfl (qg_runs (rv_leq rfl rfl)) rfl ?_ | refine GE.qn 22 rfl (by as_aux_lemma => kernel_rfl) rfl rfl ?_))
                all_goals ((first | refine GE.ol 23 (by as_aux_lemma => kernel_rfl) rfl rfl (og_runs (rv_pickT rfl rfl)) rfl (fun _ _ h => by exact h) (fun _ _ => ?_) | refine GE.ol 23 (by as_aux_lemma => kernel_rfl) rfl rfl (og_runs (rv_pickF rfl rfl)) rfl (fun _ _ h => by exact h) (fun _ _ => ?_)))
                all_goals
                 refine GE.done (by as_aux_lemma => kernel_rfl) ?_; refine G.thenN ?_; refine G.cond rfl (fun hc => ?_) (fun hc => ?_)
                 · try exact Bool.noConfusion hc
                   all_goals
                    try replace hc := of_decide_eq_true hc
                    try simp only [List.length_map] at hc
                    try (exfalso; contradiction)
                    all_goals
                     have hroom : ldRoom V Gm a x = true := (by simp only [ldRoom]; simp_all)
                     all_goals
                      refine G.seq ?_; refine G.drawL [16, 17] ?_; refine GE.q 0 rfl (by as_aux_lemma => kernel_rfl) rfl (qg_runs (rv_move rfl)) rfl ?_; refine GE.q 1 rfl (by as_aux_lemma => kernel_rfl) rfl (qg_runs (rv_nilCheckB rfl)) rfl ?_; refine GE.q 2 rfl (by as_aux_lemma => kernel_rfl) rfl (qg_runs (rv_field rfl)) rfl ?_; refine GE.q 3 rfl (by as_aux_lemma => kernel_rfl) rfl (qg_runs (rv_load1 1 rfl rfl rfl)) rfl ?_; refine GE.q 4 rfl (by as_aux_lemma => kernel_rfl) rfl (qg_runs (rv_move rfl)) rfl ?_; refine GE.q 5 rfl (by as_aux_lemma => kernel_rfl) rfl (qg_runs (rv_field rfl)) rfl ?_; refine GE.q 6 rfl (by as_aux_lemma => kernel_rfl) rfl (qg_runs (rv_load1 0 rfl rfl rfl)) rfl ?_; refine GE.q 7 rfl (by as_aux_lemma => kernel_rfl) rfl (qg_runs (rv_field rfl)) rfl ?_; refine GE.q 8 rfl (by as_aux_lemma => kernel_rfl) rfl (qg_runs (rv_load1 3 rfl rfl rfl)) rfl ?_; refine GE.q 9 rfl (by as_aux_lemma => kernel_rfl) rfl (qg_runs (rv_addB rfl rfl (by omega) (by omega))) rfl ?_; refine GE.q 10 rfl (by as_aux_lemma => kernel_rfl) rfl (qg_runs (rv_field rfl)) rfl ?_; refine GE.q 11 rfl (by as_aux_lemma => kernel_rfl) rfl (qg_runs (rv_load1 0 rfl rfl rfl)) rfl ?_; refine GE.ol 12 (by as_aux_lemma => kernel_rfl) rfl rfl (og_runs (rv_field rfl)) rfl (fun _ _ h => by exact h) (fun _ _ => ?_); refine GE.ol 13 (by as_aux_lemma => kernel_rfl) rfl rfl (og_runs (rv_load1 3 rfl rfl rfl)) rfl (fun _ _ h => by exact h) (fun _ _ => ?_)
                      refine GE.ol 14 (by as_aux_lemma => kernel_rfl) rfl rfl (og_runs (rv_addB rfl rfl (by omega) (by omega))) rfl (fun _ _ h => by exact h) (fun _ _ => ?_); refine GE.ol 15 (by as_aux_lemma => kernel_rfl) rfl rfl (og_runs (rv_build2 rfl (.cons rfl (.cons rfl .nil)) (.cons rfl rfl (.zero (.cons .nil)) (.cons rfl rfl (.succ (.zero (.cons .nil))) .nil)))) rfl (fun _ _ h => by exact h) (fun _ _ => ?_); refine GE.t 16 (by as_aux_lemma => kernel_rfl) rfl rfl rfl (og_runs (rv_indexH rfl rfl (by exact Rd.owned 2 rfl) rfl (by exact hea))) rfl (fun _ _ => ?_); refine GE.t0 17 (by as_aux_lemma => kernel_rfl) rfl rfl rfl (og_stE2 rfl rfl rfl (by exact hea) rfl rfl rfl rfl (.zero (.cons (.cons .nil)))) (fun _ _ => ?_); refine GE.done (by as_aux_lemma => kernel_rfl) ?_; refine G.thenN (G.seq (G.region (G.v (rv_move rfl) rfl (G.v (rv_move rfl) rfl ?_)))); refine G.v (rv_incr rfl rfl (by omega)) rfl ?_; refine G.frontR2 lv1 rfl ?_; refine G.rowEq ((L.set k (ldAdd a x)).map ldCell) ld_set rfl ?_
                      (refine G.frontR0 (lv1) rfl ?_); (refine G.frontB2 (q) rfl ?_); refine G.op (og_callMM2 rfl rfl rfl (ih m' hm' _ (i + 1) (L.set k (ldAdd a x)) (trL V Gm (I.drop (i + 1)) x L best k) lv1 (by omega) (fun w hh => hI w (hh.drop 2)) (by rw [List.length_set]; omega) (fun b hb => by rcases List.mem_or_eq_of_mem_set hb with hb | rfl; (exact (hL b hb).le (by omega)); (exact (hL a (List.mem_of_getElem? hk9)).add hxi)) (Nat.le_trans (tried_le (p := ldRoom V Gm) (add := ldAdd) (one := id) (t := I.drop (i + 1)) (u := x) (L := L) (b := best) k) hbest))) rfl ?_; rintro lv2 hlv2; try dsimp only
                      refine G.done (G.thenN ?_); refine G.drawL [6, 7] ?_; refine GE.q 0 rfl (by as_aux_lemma => kernel_rfl) rfl (qg_runs (rv_move rfl)) rfl ?_; refine GE.q 1 rfl (by as_aux_lemma => kernel_rfl) rfl (qg_runs (rv_nilCheckB rfl)) rfl ?_; refine GE.q 2 rfl (by as_aux_lemma => kernel_rfl) rfl (qg_runs (rv_field rfl)) rfl ?_; refine GE.q 3 rfl (by as_aux_lemma => kernel_rfl) rfl (qg_runs (rv_load1 0 rfl rfl rfl)) rfl ?_; refine GE.q 4 rfl (by as_aux_lemma => kernel_rfl) rfl (qg_runs (rv_move rfl)) rfl ?_; refine GE.ol 5 (by as_aux_lemma => kernel_rfl) rfl rfl (og_runs (rv_loadW 2 rfl rfl rfl)) rfl (fun _ _ h => by exact h) (fun _ _ => ?_); refine GE.t 6 (by as_aux_lemma => kernel_rfl) rfl rfl rfl (og_runs (rv_indexH rfl rfl (by exact Rd.owned 1 rfl) rfl (by exact he3))) rfl (fun _ _ => ?_); refine GE.t0 7 (by as_aux_lemma => kernel_rfl) rfl rfl rfl (og_stE1 rfl rfl rfl (by exact he3) rfl rfl rfl rfl (.zero (.cons (.cons .nil)))) (fun _ _ => ?_); refine GE.done (by as_aux_lemma => kernel_rfl) ?_; refine G.inN (G.thenN (G.region (G.v (rv_move rfl) rfl ?_))); refine G.v (rv_incr rfl rfl (by omega)) rfl ?_; refine G.v (rv_assign rfl) rfl (G.done ?_)
                      (refine G.frontR1 lv2 rfl ?_); refine G.rowEq (L.map ldCell) (ld_back hk9) rfl ?_; (refine G.frontB1 q rfl ?_)
                      (refine G.keep2 1 rfl ?_; refine G.backK (k + 1, lv2) 0 (by exact two_eq (congrArg (fun z : Nat => Ch.blk q 128 [iv, .int .i64 V, .int .i64 Gm, lv2, .int .i64 (z : Int)]) (tried_yes hk9 hroom).symm) rfl) (.cons rfl (.cons rfl (.cons rfl (.nil)))) ?_ ?_ ?_)
                      · exact ⟨rfl, trivial⟩
                      · exact ⟨hlt, by assumption⟩
                      · dsimp only; omega
                 · try exact Bool.noConfusion hc
                   all_goals
                    try replace hc := of_decide_eq_false hc
                    try simp only [List.length_map] at hc
                    try (exfalso; contradiction)
                    all_goals
                     have hroom : ldRoom V Gm a x = false := (by simp only [ldRoom, Bool.and_eq_false_iff, decide_eq_false_iff_not]; (try simp only [decide_eq_true_eq, decide_eq_false_iff_not] at *); omega)
                     all_goals
                      refine G.skip (G.inN (G.thenN (G.region (G.v (rv_move rfl) rfl ?_)))); refine G.v (rv_incr rfl rfl (by omega)) rfl ?_; refine G.v (rv_assign rfl) rfl (G.done ?_)
                      (refine G.frontR2 lv1 rfl ?_); (refine G.frontB2 q rfl ?_)
                      (refine G.keep2 1 rfl ?_; refine G.backK (k + 1, lv1) 0 (by exact two_eq (congrArg (fun z : Nat => Ch.blk q 128 [iv, .int .i64 V, .int .i64 Gm, lv1, .int .i64 (z : Int)]) (tried_no hk9 hroom).symm) rfl) (.cons rfl (.cons rfl (.cons rfl (.nil)))) ?_ ?_ ?_)
                      · exact ⟨rfl, trivial⟩
                      · exact ⟨hlt, by assumption⟩
                      · dsimp only; omega
            · try exact Bool.noConfusion hc
              all_goals
               try replace hc := of_decide_eq_false hc
               try simp only [List.length_map] at hc
               try (exfalso; omega)
               all_goals
                refine G.exit (G.thenX (G.thenX (G.inX (G.thenN (G.seq (G.region (G.v (rv_move rfl) rfl (G.v (rv_nilCheckB rfl) rfl (G.v (rv_field rfl) rfl (G.v (rv_load1 0 rfl rfl rfl) rfl ?_)))))))))); refine G.v (rv_len rfl (by exact Rd.owned 1 rfl)) rfl ?_; refine G.v (rv_assign rfl) rfl (G.done (G.thenN (G.seq ?_))); refine G.frontR1 lv1 rfl ?_; refine G.drawD1 [8, 9, 10] rfl ?_; refine GE.q2 0 rfl (by as_aux_lemma => kernel_rfl) rfl (qg_runs (rv_move rfl)) (fun _ h => by exact h.drop 1) rfl ?_; refine GE.q2 1 rfl (by as_aux_lemma => kernel_rfl) rfl (qg_runs (rv_move rfl)) (fun _ h => by exact h.drop 1) rfl ?_; refine GE.q2 2 rfl (by as_aux_lemma => kernel_rfl) rfl (qg_runs (rv_nilCheckB rfl)) (fun _ h => by exact h.drop 1) rfl ?_; refine GE.q2 3 rfl (by as_aux_lemma => kernel_rfl) rfl (qg_runs (rv_field rfl)) (fun _ h => by exact h.drop 1) rfl ?_; refine GE.q2 4 rfl (by as_aux_lemma => kernel_rfl) rfl (qg_runs (rv_load1 0 rfl rfl rfl)) (fun _ h => by exact h.drop 1) rfl ?_; refine GE.ol 5 (by as_aux_lemma => kernel_rfl) rfl rfl (og_runs (rv_loadW 2 rfl rfl rfl)) rfl (fun _ _ h => by exact h.drop 1) (fun _ _ => ?_); refine GE.ol 6 (by as_aux_lemma => kernel_rfl) rfl rfl (og_lit rfl (.cons rfl .nil) rfl rfl rfl rfl rfl rfl) rfl (fun _ _ h => by exact h.drop 2) (fun vx _ => ?_)
                refine GE.ol 7 (by as_aux_lemma => kernel_rfl) rfl rfl (og_app1 rfl rfl rfl (by exact Rd.owned 0 rfl) rfl rfl (by (simp; omega)) (by (simp; omega))) rfl (fun _ _ h => by exact h.drop 2) (fun va _ => ?_)
                skip; refine GE.know (fun w hw => (Rd.owned 1 rfl (v := va) w hw).one_) (fun hova => ?_)
                refine GE.t 8 (by as_aux_lemma => kernel_rfl) rfl rfl rfl (og_runs (rv_nilCheckB rfl)) rfl (fun _ _ => ?_); refine GE.t 9 (by as_aux_lemma => kernel_rfl) rfl rfl rfl (og_runs (rv_field rfl)) rfl (fun _ _ => ?_); refine GE.t0 10 (by as_aux_lemma => kernel_rfl) rfl rfl rfl (og_st2 rfl rfl rfl (cells_one (by assumption)) rfl (by repeat (first | rfl | refine one_cons (by assumption) ?_)) (.succ (.succ (.succ (.zero (.cons .nil)))))) (fun _ _ => ?_); refine GE.done (by as_aux_lemma => kernel_rfl) ?_; refine G.thenN (G.seq (G.region (G.v (rv_move rfl) rfl (G.v (rv_move rfl) rfl ?_)))); refine G.v (rv_incr rfl rfl (by omega)) rfl ?_; refine G.frontR1 va rfl ?_; refine G.rowEq ((L ++ [x]).map ldCell) ld_push rfl ?_
                (refine G.frontR0 (va) rfl ?_); (refine G.frontB2 (q) rfl ?_); refine G.op (og_callMM2 rfl rfl rfl (ih m' hm' _ (i + 1) (L ++ [x]) (trL V Gm (I.drop (i + 1)) x L best k) va (by omega) (fun w hh => hI w (hh.drop 2)) (by simp; omega) (fun b hb => by rcases List.mem_append.1 hb with hb | hb; (exact (hL b hb).le (by omega)); (obtain rfl : b = x := (by simpa using hb)); exact hxi.le (by omega)) (Nat.le_trans (tried_le (p := ldRoom V Gm) (add := ldAdd) (one := id) (t := I.drop (i + 1)) (u := x) (L := L) (b := best) k) hbest))) rfl ?_; rintro lv3 hlv3; try dsimp only
                refine G.done (G.thenN (G.region (G.v (rv_move rfl) rfl (G.v (rv_move rfl) rfl (G.v (rv_nilCheckB rfl) rfl (G.v (rv_field rfl) rfl (G.v (rv_load1 0 rfl rfl rfl) rfl (G.v (rv_move rfl) rfl ?_)))))))); refine G.v (rv_sliceH rfl rfl (by exact Rd.owned 1 rfl) (by simp)) rfl ?_; refine G.frontR1 lv3 rfl ?_; refine G.know (fun w hw => ((Rd.owned 0 rfl w hw).subH (k := (L.map ldCell).length) (by simp)).one_) (fun hcut => ?_); refine G.v (rv_nilCheckB rfl) rfl (G.v (rv_field rfl) rfl ?_); refine G.op0 (og_st1 rfl rfl rfl (cells_one (by assumption)) rfl (by repeat (first | rfl | refine one_cons (by assumption) ?_)) (.succ (.succ (.succ (.zero (.cons .nil)))))) (fun _ _ => ?_); refine G.done ?_; refine G.frontR0 lv3 rfl ?_; refine G.cutE (L.map ldCell).length (by simp) ld_cut rfl ?_; refine G.frontB1 q rfl ?_; refine G.endF0 (subV lv3 2 0 (L.map ldCell).length) hcut rfl rfl (fun w hw => ?_)
                rw [hdr, show min best (fewL V Gm (x :: I.drop (i + 1)) L) = min (trL V Gm (I.drop (i + 1)) x L best L.length) (fewL V Gm (I.drop (i + 1)) (L ++ [x])) from tried_all.symm, ← hkL]
                exact hw.sublist (by repeat (first | exact List.Sublist.refl _ | refine List.Sublist.cons_cons _ ?_ | refine List.Sublist.cons _ ?_))
theorem l8Try_any {w0 : World} {q : Nat} {iv : Value} {I : List LdM} {V Gm : Int} (hI0 : ∀ b ∈ I, ldIn 1 b) (hIl : I.length ≤ 8) : ∀ m, TryOk w0 q iv I V Gm m
  | 0 => l8Try_step hI0 hIl 0 (fun m' h => by omega)
  | m + 1 => l8Try_step hI0 hIl (m + 1) (fun m' h => by obtain rfl : m = m' := (by omega); exact l8Try_any hI0 hIl m)
end Go.Proofs.YtibkggjbkgdnkaaGreat

/-
  The fewest cartons: the reference's way, from the beginning.
-/
namespace Go.Proofs.YtibkggjbkgdnkaaGreat
open Go.RowKit
attribute [local irreducible] Go.wpList Go.Code.wp Go.Exit.then Go.Exit.inBlock Go.bodyPost Go.Calls pE pB G RunsV FnV Fn FnM
set_option maxRecDepth 100000
set_option maxHeartbeats 4000000
def ldOf (r : ReqM) (u : Int) : LdM := (vOf r u, gOf r u)
theorem volUS_snoc (r : ReqM) (l : List Int) (u : Int) : volUS r (l ++ [u]) = volUS r l + vOf r u := by simp [volUS, List.sum_append]
theorem gram_snoc (r : ReqM) (l : List Int) (u : Int) : gramM r (l ++ [u]) = gramM r l + gOf r u := by simp [gramM, List.sum_append]
theorem few_loads {r : ReqM} (h : classM r = 0) (t : List Int) : fewL (volM (mst r).w (mst r).h (mst r).d) (mst r).g (t.map (ldOf r)) [] = fewU r t [] :=
  few_hom (p := roomM r) (add := fun l u => l ++ [u]) (one := fun u => [u]) (fun l => ((volUS r l, gramM r l) : LdM)) (ldOf r)
    (fun l u => by rw [room_yes h, holdsM, volUS_snoc, gram_snoc]; rfl) (fun l u => by rw [volUS_snoc, gram_snoc]; rfl) (fun u => by rw [volUS_one, gram_one]; rfl) t []
theorem ldOf_in (r : ReqM) (u : Int) : ldIn 1 (ldOf r u) := by
  have h1 := vOf_in r u
  have h2 := gOf_in r u
  simp only [ldIn, ldOf]; omega
theorem ld_next {r : ReqM} {T : List Int} {k : Nat} {x : Int} (hx : T[k]? = some x) : ((T.take k).map (ldOf r)).map ldCell ++ [[Value.int .i64 (vOf r x), Value.int .i64 (gOf r x)]] = ((T.take (k + 1)).map (ldOf r)).map ldCell := by
  simp [List.take_add_one, hx, ldCell, ldOf]
theorem best_yes {r : ReqM} {us : List Int} (h : classM r = 0) (h8 : (thereM r us).length ≤ 8) : bestM r us = (fewU r (thereM r us) [] : Int) := by rw [bestM, if_pos ⟨h, h8⟩]
theorem best_no {r : ReqM} {us : List Int} (h : ¬ classM r = 0) : bestM r us = -1 := by rw [bestM, if_neg (fun q => h q.1)]
theorem best_many {r : ReqM} {us : List Int} (h : ¬ (thereM r us).length ≤ 8) : bestM r us = -1 := by rw [bestM, if_neg (fun q => h q.2)]
section
variable {r : ReqM} {pv tv iv uv : Value} {us : List Int} (w : World) (h : Rd w pv 2 (r.pairs.map PairM.cells)) (h2 : Rd w tv 7 (r.types.map TypeM.cells)) (h3 : Rd w iv 7 (r.items.map ItemM.cells)) (h4 : Rd w uv 1 (us.map icell)) (hul : us.length ≤ 1048576)
include h h2 h3 h4 hul
theorem sbest_any : FnV Tryz.prog 48 [.agg (r.cells pv tv iv).toArray, uv] w (.int .i64 (bestM r us)) := by
  obtain ⟨T, hT⟩ : ∃ T, T = thereM r us := ⟨_, rfl⟩
  have hTl2 : (T.map icell).length = T.length := by simp
  refine FnV.of (n := 71) Tryz.func48 rfl rfl ?_; refine G.seq (G.region ?_); refine G.op (og_box rfl rfl) rfl (fun bk2 _ => ?_); refine G.v (rv_assign rfl) rfl (G.done (G.thenN (G.seq (G.seq (G.region (G.v (rv_loadW 0 rfl rfl rfl) rfl ?_)))))); refine G.op (og_callV rfl rfl (fun w hh => sclass_any (r := r) w (Rd.stays h _ hh) (Rd.stays h2 _ hh) (Rd.stays h3 _ hh))) rfl (fun _ _ => ?_); refine G.v (rv_neq rfl rfl) rfl (G.done (G.thenN ?_)); refine G.cond rfl (fun hc => ?_) (fun hc => ?_)
  · try exact Bool.noConfusion hc
    all_goals
     try replace hc := of_decide_eq_true hc
     try simp only [hTl2] at hc
     try (exfalso; contradiction)
     all_goals
      have hno : ¬ classM r = 0 := hc
      all_goals
       refine G.seq (G.region (G.v (rv_assign rfl) rfl (G.done (G.thenN (G.ret (G.thenR ?_))))))
       exact G.retFV rfl rfl (congrArg (Value.int .i64) (best_no hno).symm)
  · try exact Bool.noConfusion hc
    all_goals
     try replace hc := of_decide_eq_false hc
     try simp only [hTl2] at hc
     try (exfalso; contradiction)
     all_goals
      have hyes : classM r = 0 := by omega
      have hmv := type_vol (mst_ok hyes)
      all_goals
       refine G.skip (G.thenN (G.seq (G.region (G.v (rv_loadW 0 rfl rfl rfl) rfl ?_))))
       (refine G.op (og_callF1 rfl rfl (fun w hh => by have q := sl6Units_any (r := r) (pv := pv) (tv := tv) w (bounds_items (cls_sound hyes)) (bounds_lens (cls_sound hyes)).1 (Rd.stays h3 _ hh); rw [← unitsM_yes hyes] at q; exact q)) rfl ?_; rintro vu hvu; try dsimp only)
       refine G.v (rv_assign rfl) rfl (G.done (G.thenN (G.seq (G.region (G.v (rv_move rfl) rfl (G.v (rv_move rfl) rfl ?_))))))
       (refine G.op (og_callF1 rfl rfl (fun w hh => by have q := l7Known_any (r := r) (us := us) w (by exact Rd.owned 0 rfl _ hh) (Rd.stays h4 _ hh) hul; rw [← hT] at q; exact q)) rfl ?_; rintro vt hvt; try dsimp only)
       refine G.v (rv_assign rfl) rfl (G.done (G.thenN (G.seq (G.seq (G.region (G.v (rv_move rfl) rfl ?_)))))); refine G.v (rv_len rfl (by exact Rd.owned 0 rfl)) rfl ?_; refine G.v (rv_gtr rfl rfl) rfl (G.done (G.thenN ?_)); refine G.cond rfl (fun hc => ?_) (fun hc => ?_)
       · try exact Bool.noConfusion hc
         all_goals
          try replace hc := of_decide_eq_true hc
          try simp only [hTl2] at hc
          try (exfalso; contradiction)
          all_goals
           have hmany : ¬ (thereM r us).length ≤ 8 := (by rw [← hT]; omega)
           all_goals
            refine G.seq (G.region (G.v (rv_assign rfl) rfl (G.done (G.thenN (G.ret (G.thenR ?_))))))
            exact G.retFV rfl rfl (congrArg (Value.int .i64) (best_many hmany).symm)
       · try exact Bool.noConfusion hc
         all_goals
          try replace hc := of_decide_eq_false hc
          try simp only [hTl2] at hc
          try (exfalso; contradiction)
          all_goals
           have hfew : (thereM r us).length ≤ 8 := (by rw [← hT]; omega)
           have hT8 : T.length ≤ 8 := (by rw [hT]; exact hfew)
           all_goals
            refine G.skip (G.thenN (G.seq (G.region (G.v (rv_loadW 2 rfl rfl rfl) rfl ?_)))); refine G.op (og_callV rfl rfl (fun w hh => smasterOf_any (r := r) w (Rd.stays h2 _ hh))) rfl (fun _ _ => ?_); refine G.v (rv_move rfl) rfl (G.v (rv_extract rfl rfl) rfl (G.v (rv_extract rfl rfl) rfl ?_)); refine G.op (og_alloc) rfl (fun bk7 _ => ?_); refine G.op0 (og_st0 rfl rfl rfl rfl rfl rfl (.zero (.cons (.cons (.cons (.cons (.cons (.cons (.cons .nil))))))))) (fun _ _ => ?_); refine G.v (rv_assign rfl) rfl (G.done (G.thenN (G.seq ?_))); refine G.drawL [15] ?_; refine GE.q 0 rfl (by as_aux_lemma => kernel_rfl) rfl (qg_runs (rv_field rfl)) rfl ?_; refine GE.q 1 rfl (by as_aux_lemma => kernel_rfl) rfl (qg_runs (rv_load1 0 rfl rfl rfl)) rfl ?_; refine GE.q 2 rfl (by as_aux_lemma => kernel_rfl) rfl (qg_runs (rv_field rfl)) rfl ?_; refine GE.q 3 rfl (by as_aux_lemma => kernel_rfl) rfl (qg_runs (rv_load1 0 rfl rfl rfl)) rfl ?_; refine GE.q 4 rfl (by as_aux_lemma => kernel_rfl) rfl (qg_runs (rv_field rfl)) rfl ?_; refine GE.q 5 rfl (by as_aux_lemma => kernel_rfl) rfl (qg_runs (rv_load1 0 rfl rfl rfl)) rfl ?_; refine GE.q 6 rfl (by as_aux_lemma => kernel_rfl) rfl (qg_call rfl rfl (fun w hh => svolume_any (mst r).w (mst r).h (mst r).d w)) rfl ?_; refine GE.q 7 rfl (by as_aux_lemma => kernel_rfl) rfl (qg_runs (rv_field rfl)) rfl ?_
            refine GE.q 8 rfl (by as_aux_lemma => kernel_rfl) rfl (qg_runs (rv_load1 0 rfl rfl rfl)) rfl ?_; refine GE.q 9 rfl (by as_aux_lemma => kernel_rfl) rfl (qg_runs (rv_build2 rfl (.cons rfl (.cons rfl .nil)) (.cons rfl rfl (.zero (.cons .nil)) (.cons rfl rfl (.succ (.zero (.cons .nil))) .nil)))) rfl ?_; refine GE.ol 10 (by as_aux_lemma => kernel_rfl) rfl rfl (og_runs (rv_move rfl)) rfl (fun _ _ h => by exact h) (fun _ _ => ?_); refine GE.ol 11 (by as_aux_lemma => kernel_rfl) rfl rfl (og_runs (rv_len rfl (by exact Rd.owned 1 rfl))) rfl (fun _ _ h => by exact h) (fun _ _ => ?_); refine GE.ol 12 (by as_aux_lemma => kernel_rfl) rfl rfl (og_runs (rv_incr rfl rfl (by omega))) rfl (fun _ _ h => by exact h) (fun _ _ => ?_); refine GE.ol 13 (by as_aux_lemma => kernel_rfl) rfl rfl (og_runs (rv_build2 rfl (.cons rfl (.cons rfl .nil)) (.cons rfl rfl (.succ (.zero (.cons (.cons .nil)))) (.cons rfl rfl (.succ (.succ (.succ (.succ (.zero (.cons .nil)))))) .nil)))) rfl (fun _ _ h => by exact h) (fun _ _ => ?_); refine GE.ol 14 (by as_aux_lemma => kernel_rfl) rfl rfl (og_box rfl rfl) rfl (fun _ _ h => by exact h.drop 1) (fun bk41 _ => ?_); refine GE.t 15 (by as_aux_lemma => kernel_rfl) rfl rfl rfl (og_runs (rv_assign rfl)) rfl (fun _ _ => ?_); refine GE.done (by as_aux_lemma => kernel_rfl) ?_; refine G.thenN (G.seq (G.seq (G.region (G.v (rv_assign rfl) rfl (G.done (G.thenN (G.block ?_)))))))
            -- loop 0: turned [10], kept [2, 5, 6, 9]
            refine G.heap (fun w hh => hh.nilRow 112 2) ?_; refine G.frontB1 bk41 rfl ?_; refine G.loopK (ι := Nat × Value) (ks := [2, 5, 6, 9]) (fun y => [(10, .int .i64 (y.1 : Int))]) (fun y => [.blk bk41 128 [y.2, .int .i64 (volM (mst r).w (mst r).h (mst r).d), .int .i64 (mst r).g, .slice none 0 0, .int .i64 (((T.map icell).length + 1 : Nat) : Int)], .row y.2 112 2 (((T.take y.1).map (ldOf r)).map ldCell)]) (fun y => y.1 ≤ T.length) (fun y => T.length - y.1) (0, .slice none 0 0) (.cons rfl (.cons rfl (.cons rfl (.cons rfl (.nil))))) rfl ?_ ?_ ?_
            · exact Nat.zero_le _
            · exact ⟨rfl, trivial⟩
            rintro ⟨k, iv1⟩ hk
            dsimp only at hk ⊢
            have hl9 : (((T.take k).map (ldOf r)).map ldCell).length = k := (by simp; omega)
            by_cases hlt : k < T.length
            case' pos => (obtain ⟨x, hx⟩ := get_of_lt hlt; have he := get_map hx icell)
            case' neg => (have hkT : T.take k = T := List.take_of_length_le (by omega))
            all_goals
             refine G.seq (G.seq (G.region (G.v (rv_move rfl) rfl (G.v (rv_move rfl) rfl ?_)))); refine G.v (rv_len rfl (by exact Rd.owned 3 rfl)) rfl ?_; refine G.v (rv_lss rfl rfl) rfl (G.done (G.thenN ?_)); refine G.cond rfl (fun hc => ?_) (fun hc => ?_)
             · try exact Bool.noConfusion hc
               all_goals
                try replace hc := of_decide_eq_true hc
                try simp only [hTl2] at hc
                try (exfalso; omega)
                all_goals
                 refine G.skip (G.thenN (G.seq (G.block ?_))); refine G.frontR1 iv1 rfl ?_; refine G.drawD1 [15, 16, 17] rfl ?_; refine GE.q2 0 rfl (by as_aux_lemma => kernel_rfl) rfl (qg_runs (rv_move rfl)) (fun _ h => by exact h.drop 1) rfl ?_; refine GE.q2 1 rfl (by as_aux_lemma => kernel_rfl) rfl (qg_runs (rv_move rfl)) (fun _ h => by exact h.drop 1) rfl ?_; refine GE.q2 2 rfl (by as_aux_lemma => kernel_rfl) rfl (qg_runs (rv_nilCheckB rfl)) (fun _ h => by exact h.drop 1) rfl ?_; refine GE.q2 3 rfl (by as_aux_lemma => kernel_rfl) rfl (qg_runs (rv_field rfl)) (fun _ h => by exact h.drop 1) rfl ?_; refine GE.q2 4 rfl (by as_aux_lemma => kernel_rfl) rfl (qg_runs (rv_load1 0 rfl rfl rfl)) (fun _ h => by exact h.drop 1) rfl ?_; refine GE.q2 5 rfl (by as_aux_lemma => kernel_rfl) rfl (qg_runs (rv_loadW 4 rfl rfl rfl)) (fun _ h => by exact h.drop 1) rfl ?_; refine GE.q2 6 rfl (by as_aux_lemma => kernel_rfl) rfl (qg_runs (rv_move rfl)) (fun _ h => by exact h.drop 1) rfl ?_; refine GE.q2 7 rfl (by as_aux_lemma => kernel_rfl) rfl (qg_runs (rv_move rfl)) (fun _ h => by exact h.drop 1) rfl ?_; refine GE.q2 8 rfl (by as_aux_lemma => kernel_rfl) rfl (qg_runs (rv_move rfl)) (fun _ h => by exact h.drop 1) rfl ?_; refine GE.ol 9 (by as_aux_lemma => kernel_rfl) rfl rfl (og_runs (rv_move rfl)) rfl (fun _ _ h => by exact h.drop 1) (fun _ _ => ?_)
                 refine GE.ol 10 (by as_aux_lemma => kernel_rfl) rfl rfl (og_runs (rv_incr rfl rfl (by omega))) rfl (fun _ _ h => by exact h.drop 1) (fun _ _ => ?_); refine GE.ol 11 (by as_aux_lemma => kernel_rfl) rfl rfl (og_runs (rv_sliceLH (l := k) (h := k + 1) rfl rfl rfl (by omega) (by exact Rd.owned 3 rfl) (by omega) (by simp; omega))) rfl (fun _ _ h => by exact h.drop 1) (fun _ _ => ?_); refine GE.ol 12 (by as_aux_lemma => kernel_rfl) rfl rfl (og_callV rfl rfl (fun w hh => (l7Of_any (r := r) (us := [x]) w (Rd.stays h3 _ hh) (by have q := (show Rd w vt 1 (T.map icell) from (by exact Rd.owned 3 rfl _ hh)).sub (l := k) (k := k + 1) (by omega) (by simp; omega); rw [one_sub hx] at q; exact q) (by simp) (by exact Rd.owned 4 rfl _ hh)).mono (show _ = Value.agg [.int .i64 (vOf r x), .int .i64 (gOf r x)].toArray by rw [volUS_one, gram_one]))) rfl (fun _ _ h => by exact h.drop 1) (fun _ _ => ?_); refine GE.ol 13 (by as_aux_lemma => kernel_rfl) rfl rfl (og_lit rfl (.cons rfl .nil) rfl rfl rfl rfl rfl rfl) rfl (fun _ _ h => by exact h.drop 2) (fun vx _ => ?_); refine GE.ol 14 (by as_aux_lemma => kernel_rfl) rfl rfl (og_app1 rfl rfl rfl (by exact Rd.owned 0 rfl) rfl rfl (by (simp; omega)) (by (simp; omega))) rfl (fun _ _ h => by exact h.drop 2) (fun va _ => ?_)
                 skip; refine GE.know (fun w hw => (Rd.owned 1 rfl (v := va) w hw).one_) (fun hova => ?_)
                 refine GE.t 15 (by as_aux_lemma => kernel_rfl) rfl rfl rfl (og_runs (rv_nilCheckB rfl)) rfl (fun _ _ => ?_); refine GE.t 16 (by as_aux_lemma => kernel_rfl) rfl rfl rfl (og_runs (rv_field rfl)) rfl (fun _ _ => ?_); refine GE.t0 17 (by as_aux_lemma => kernel_rfl) rfl rfl rfl (og_st2 rfl rfl rfl (cells_one (by assumption)) rfl (by repeat (first | rfl | refine one_cons (by assumption) ?_)) (.zero (.cons .nil))) (fun _ _ => ?_); refine GE.done (by as_aux_lemma => kernel_rfl) ?_; refine G.inN (G.thenN (G.region (G.v (rv_move rfl) rfl ?_))); refine G.v (rv_incr rfl rfl (by omega)) rfl ?_; refine G.v (rv_assign rfl) rfl (G.done ?_); refine G.frontR1 va rfl ?_; refine G.frontB2 bk41 rfl ?_
                 (refine G.keep2 1 rfl ?_; refine G.backK (k + 1, va) 0 (two_eq rfl (congrArg (fun z => Ch.row va 112 2 z) (ld_next hx))) (.cons rfl (.cons rfl (.cons rfl (.cons rfl (.nil))))) ?_ ?_ ?_)
                 · exact ⟨rfl, trivial⟩
                 · exact hlt
                 · dsimp only; omega
             · try exact Bool.noConfusion hc
               all_goals
                try replace hc := of_decide_eq_false hc
                try simp only [hTl2] at hc
                try (exfalso; omega)
                all_goals
                 refine G.exit (G.thenX (G.thenX (G.inX (G.thenN (G.seq (G.region (G.v (rv_move rfl) rfl ?_))))))); refine G.heap (fun w hh => hh.nilRow 112 2) ?_
                 (refine G.frontR0 ((Value.slice none 0 0)) rfl ?_); (refine G.frontB1 (bk41) rfl ?_); refine G.op (og_callMM2 rfl rfl rfl (l8Try_any (I := T.map (ldOf r)) (fun b hb => by obtain ⟨u, _, rfl⟩ := List.mem_map.1 hb; exact ldOf_in r u) (by rw [List.length_map]; omega) T.length _ 0 [] ((T.map icell).length + 1) (.slice none 0 0) (by rw [List.length_map]; omega) (by rw [hkT]; exact Rd.owned 0 rfl) (Nat.zero_le _) (fun a ha => by simp at ha) (by rw [hTl2]; omega))) rfl ?_; rintro lv3 hlv3; try dsimp only
                 refine G.done (G.thenN (G.seq (G.region (G.v (rv_move rfl) rfl (G.v (rv_nilCheckB rfl) rfl (G.v (rv_field rfl) rfl (G.v (rv_load1 0 rfl rfl rfl) rfl (G.v (rv_assign rfl) rfl (G.done (G.thenN (G.ret ?_)))))))))))
                 (exact G.retFV rfl rfl (congrArg (Value.int .i64) (by rw [best_yes hyes hfew, ← hT, ← few_loads hyes, hTl2]; have := few_le (p := ldRoom (volM (mst r).w (mst r).h (mst r).d) (mst r).g) (add := ldAdd) (one := id) (T.map (ldOf r)) []; rw [List.length_map, List.length_nil, Nat.zero_add] at this; exact congrArg Int.ofNat (Nat.min_eq_right (Nat.le_succ_of_le this)))))
end
end Go.Proofs.YtibkggjbkgdnkaaGreat

/-
  The fewest cartons: the program's search.
-/
namespace Go.Proofs.YtibkggjbkgdnkaaGreat
open Go.RowKit
section
variable {P : Program} {n : Nat} {w0 : World} {fr : Fr} {H : List Ch}
theorem rv_minN {x y : Operand} {ts : Array TypeId} {k k' : IntKind} {p q : Nat} (hx : opv fr x = some (.int k (p : Int))) (hy : opv fr y = some (.int k' (q : Int))) :
    RunsV P n w0 fr H (.call ⟨.builtin .min, #[x, y], ts⟩) (.int k ((min p q : Nat) : Int)) := fun a w hr hh _ _ _ _ _ => by
  have e : ((min p q : Nat) : Int) = if (q : Int) < p then (q : Int) else p := by split <;> omega
  simp only [execOp, resolve, invoke, builtin, List.map_toArray, List.map_cons, List.map_nil, hr.opv hx, hr.opv hy, Builtin.min_, Builtin.min2, Sem.run_bind, Sem.run_pure, Result.andThen_ok, e]
  simp [Builtin.min2, Sem.run_bind, Sem.run_pure, Result.andThen_ok]
variable {f : FuncId} [hF : FnOk P f] {fo : Operand} {xs : List Operand} {vs caps : List Value} {ts : Array TypeId} {X : Type} {φ : X → Prop} {rv : X → Value} {c1 c2 c3 c4 : Ch} {F : List Ch} {o1 o2 o3 o4 : X → Ch}
theorem og_callMM4 (hf : opv fr fo = some (.func (.func f) #[] caps.toArray)) (hx : opvs fr xs = some vs) (hH : H = c1 :: c2 :: c3 :: c4 :: F) (hc : FnMF P f (vs ++ caps) w0 [c1, c2, c3, c4] F φ rv (fun x => [o1 x, o2 x, o3 x, o4 x])) :
    OpG P n w0 fr H (.call ⟨.value fo, xs.toArray, ts⟩) φ rv (fun x => o1 x :: o2 x :: o3 x :: o4 x :: F) := og_callMF hf hx hc (by subst hH; exact List.Perm.refl _)
theorem HeapOk.swapOut {w : World} {t : TypeId} {s q : Nat} {v : Value} {es : List (List Value)} {rs : List (Value × List (List Value))} {r : Value × List (List Value)} (h : HeapOk w0 w (.row v t s es :: .grp t s rs :: H)) (hq : rs[q]? = some r) : HeapOk w0 w (.grp t s (rs.set q (v, es)) :: .row r.1 t s r.2 :: H) := by
  have h1 : HeapOk w0 w (.grp t s rs :: .row v t s es :: H) := h.perm (List.Perm.swap _ _ _)
  have h2 : HeapOk w0 w (.row r.1 t s r.2 :: .grp t s (rs.eraseIdx q) :: .row v t s es :: H) := h1.focus hq
  have h3 : HeapOk w0 w (.row v t s es :: .grp t s (rs.eraseIdx q) :: .row r.1 t s r.2 :: H) := h2.perm (((List.Perm.swap _ _ _).cons _).trans ((List.Perm.swap _ _ _).trans ((List.Perm.swap _ _ _).cons _)))
  exact h3.join.grpPerm (perm_setG hq)
theorem G.swapOut {F : List Ch} {t : TypeId} {s q : Nat} {v : Value} {es : List (List Value)} {rs : List (Value × List (List Value))} {r : Value × List (List Value)} (rs' : List (Value × List (List Value))) {K : Act → World → Prop} (hq : rs[q]? = some r) (e : rs.set q (v, es) = rs') (hH : H = .row v t s es :: .grp t s rs :: F) (h : G n w0 fr (.grp t s rs' :: .row r.1 t s r.2 :: F) K) : G n w0 fr H K :=
  G.heap (fun w hh => by subst e hH; exact hh.swapOut hq) h
theorem G.grpSub {F : List Ch} {t : TypeId} {s : Nat} {rs : List (Value × List (List Value))} (rs' : List (Value × List (List Value))) {K : Act → World → Prop} (p : rs'.Sublist rs) (hH : H = .grp t s rs :: F) (h : G n w0 fr (.grp t s rs' :: F) K) : G n w0 fr H K :=
  G.heap (fun w hh => by subst hH; exact hh.grpSub p) h
theorem G.keep4 (m : Nat) {J : List Ch} {K : Act → World → Prop} (hH : H = c1 :: c2 :: c3 :: c4 :: J) (h : G n w0 fr (c1 :: c2 :: c3 :: c4 :: J.drop m) K) : G n w0 fr H K := G.heap (fun w hh => by subst hH; exact hh.sublist (List.Sublist.cons_cons _ (List.Sublist.cons_cons _ (List.Sublist.cons_cons _ (List.Sublist.cons_cons _ (List.drop_sublist m J)))))) h
end
theorem four_eq {a a' b b' c c' d d' : Ch} {F : List Ch} (h1 : a = a') (h2 : b = b') (h3 : c = c') (h4 : d = d') : a :: b :: c :: d :: F = [a', b', c', d'] ++ F := by subst h1 h2 h3 h4; rfl
attribute [local irreducible] Go.wpList Go.Code.wp Go.Exit.then Go.Exit.inBlock Go.bodyPost Go.Calls pE pB G RunsV FnV Fn FnM
set_option maxRecDepth 100000
set_option maxHeartbeats 4000000
abbrev trU (r : ReqM) (t : List Int) (u : Int) (L : List (List Int)) (b i : Nat) : Nat := triedB (roomM r) (fun l u => l ++ [u]) (fun u => [u]) t u L b i
theorem back_g {ts : List (List Int × Value)} {q : Nat} {b c : List Int × Value} (hb : ts[q]? = some b) : ((ts.set q c).map gcell).set q [b.2] = ts.map gcell := by
  have e : (ts.set q c).set q b = ts := by rw [List.set_set]; exact set_self hb
  rw [← congrArg (List.map gcell) e, List.map_set (l := ts.set q c)]; rfl
theorem back_sub {ts : List (List Int × Value)} {q : Nat} {b c : List Int × Value} (hb : ts[q]? = some b) : ((ts.set q c).map (sub id)).set q (b.2, b.1.map icell) = ts.map (sub id) := by
  have e : (ts.set q c).set q b = ts := by rw [List.set_set]; exact set_self hb
  rw [← congrArg (List.map (sub id)) e, List.map_set (l := ts.set q c)]; rfl
theorem cut_g {ts : List (List Int × Value)} {c : List Int × Value} : ((ts ++ [c]).map gcell).take (((ts ++ [c]).map gcell).length - 1) = ts.map gcell := by
  rw [List.map_append, List.take_left' (by simp)]
/-- What the search reads, and does not turn. -/
structure BestF (w0 : World) (F : List Ch) (r : ReqM) (pv tv iv : Value) (T : List Int) (qt qb ql qr qp : Nat) (uv : Value) : Prop where
  t : ∀ w, HeapOk w0 w F → Rd w (.slice (some ⟨qt, 0, none⟩) 1 1) 1 [[uv]]
  u : ∀ w, HeapOk w0 w F → Rd w uv 1 (T.map icell)
  r : ∀ w, HeapOk w0 w F → Rd w (.slice (some ⟨qr, 0, none⟩) 1 1) 10 [r.cells pv tv iv]
  p : ∀ w, HeapOk w0 w F → Rd w (.slice (some ⟨qp, 0, none⟩) 1 1) 1 [[.func (.func 123) #[] [pB qt 0, pB qb 0, pB ql 0, pB qr 0, pB qp 0].toArray]]
theorem BestF.up {w0 : World} {F G : List Ch} {r : ReqM} {pv tv iv : Value} {T : List Int} {qt qb ql qr qp : Nat} {uv : Value} (j : Nat) (e : G.drop j = F) (h : BestF w0 F r pv tv iv T qt qb ql qr qp uv) : BestF w0 G r pv tv iv T qt qb ql qr qp uv := by
  subst e
  exact ⟨fun w hh => h.t w (hh.drop j), fun w hh => h.u w (hh.drop j), fun w hh => h.r w (hh.drop j), fun w hh => h.p w (hh.drop j)⟩
def TryI (w0 : World) (r : ReqM) (pv tv iv : Value) (T : List Int) (qt qb ql qr qp : Nat) (uv : Value) (m : Nat) : Prop := ∀ (F : List Ch) (k : Nat) (ts : List (List Int × Value)) (best : Nat) (lv : Value), k + m = T.length → BestF w0 F r pv tv iv T qt qb ql qr qp uv → ts.length ≤ k → (∀ b ∈ ts, b.1.length ≤ k) → best ≤ 9 →
    FnMF Tryz.prog 123 [.int .i64 (k : Int), pB qt 0, pB qb 0, pB ql 0, pB qr 0, pB qp 0] w0 [.blk qb 3 [.int .i64 (best : Int)], .blk ql 30 [lv], .row lv 44 1 (ts.map gcell), .grp 3 1 (ts.map (sub id))] F
      (fun x : Value => x.oneCell' = true) (fun _ => .tuple #[]) (fun x => [.blk qb 3 [.int .i64 ((min best (fewU r (T.drop k) (ts.map Prod.fst)) : Nat) : Int)], .blk ql 30 [x], .row x 44 1 (ts.map gcell), .grp 3 1 (ts.map (sub id))])
theorem best1_step {w0 : World} {r : ReqM} {pv tv iv : Value} {T : List Int} {qt qb ql qr qp : Nat} {uv : Value} (h : Rd w0 pv 2 (r.pairs.map PairM.cells)) (h2 : Rd w0 tv 7 (r.types.map TypeM.cells)) (h3 : Rd w0 iv 7 (r.items.map ItemM.cells)) (hT8 : T.length ≤ 8) (m : Nat) (ih : ∀ m', m = m' + 1 → TryI w0 r pv tv iv T qt qb ql qr qp uv m') : TryI w0 r pv tv iv T qt qb ql qr qp uv m := by
  intro F k ts best lv hkm hF hts hbl hbest
  rw [pB_eq_pE qt 1, pB_eq_pE qr 10, pB_eq_pE qp 1]
  have hTl2 : (T.map icell).length = T.length := by simp
  refine FnMF.of (n := 78) Tryz.func123 rfl rfl ?_; refine G.know (fun w hw => (Rd.owned 2 rfl w hw).one_) (fun hone => ?_); refine G.seq (G.seq (G.region (G.v (rv_move rfl) rfl ?_))); refine G.v (rv_loadE rfl (by exact (fun w hh => hF.t w (hh.drop 4))) (by rfl) rfl) rfl ?_; refine G.v (rv_len rfl (by exact (fun w hh => hF.u w (hh.drop 4)))) rfl ?_; refine G.v (rv_eql rfl rfl) rfl (G.done (G.thenN ?_)); refine G.cond rfl (fun hc => ?_) (fun hc => ?_)
  · try exact Bool.noConfusion hc
    all_goals
     try replace hc := of_decide_eq_true hc
     try simp only [hTl2] at hc
     try (exfalso; contradiction)
     all_goals
      have hdr : T.drop k = [] := List.drop_eq_nil_of_le (by omega)
      all_goals
       refine G.seq (G.region (G.v (rv_load1 0 rfl rfl rfl) rfl (G.v (rv_load1 1 rfl rfl rfl) rfl ?_))); refine G.v (rv_len rfl (by exact Rd.owned 2 rfl)) rfl ?_; refine G.v (rv_minN rfl rfl) rfl ?_; refine G.op0 (og_st0 rfl rfl rfl rfl rfl rfl (.zero (.cons .nil))) (fun _ _ => ?_); refine G.done (G.thenN (G.ret (G.thenR ?_))); refine G.retF0 lv hone rfl rfl (fun w hw => ?_); rw [hdr, show fewU r [] (ts.map Prod.fst) = (ts.map gcell).length by rw [List.length_map]; exact List.length_map _]; exact hw
  · try exact Bool.noConfusion hc
    all_goals
     try replace hc := of_decide_eq_false hc
     try simp only [hTl2] at hc
     try (exfalso; contradiction)
     all_goals
      obtain ⟨m', hm'⟩ : ∃ m', m = m' + 1 := ⟨m - 1, by omega⟩
      obtain ⟨x, hx⟩ := get_of_lt (l := T) (k := k) (by omega)
      have hex := get_map hx icell
      have hdr : T.drop k = x :: T.drop (k + 1) := (by obtain ⟨h1, rfl⟩ := List.getElem?_eq_some_iff.1 hx; exact List.drop_eq_getElem_cons h1)
      all_goals
       refine G.skip (G.thenN (G.seq (G.region ?_))); refine G.v (rv_loadE rfl (by exact (fun w hh => hF.t w (hh.drop 4))) (by rfl) rfl) rfl ?_; refine G.v (rv_move rfl) rfl ?_; refine G.v (rv_indexH rfl rfl (by exact (fun w hh => hF.u w (hh.drop 4))) rfl (by exact hex)) rfl ?_; refine G.v (rv_loadE rfl (by exact (fun w hh => hF.u w (hh.drop 4))) (by exact hex) rfl) rfl ?_; refine G.v (rv_assign rfl) rfl (G.done (G.thenN (G.seq (G.seq (G.region (G.v (rv_load1 1 rfl rfl rfl) rfl ?_)))))); refine G.v (rv_len rfl (by exact Rd.owned 2 rfl)) rfl ?_; refine G.v (rv_move rfl) rfl (G.done (G.thenN (G.block ?_)))
       -- loop 0: turned [24], kept [0, 2, 3, 4, 5, 7, 23]
       refine G.loopK (ι := Nat × Value) (ks := [0, 2, 3, 4, 5, 7, 23]) (fun y => [(24, .int .i64 (y.1 : Int))]) (fun y => [.blk qb 3 [.int .i64 ((trU r (T.drop (k + 1)) x (ts.map Prod.fst) best y.1 : Nat) : Int)], .blk ql 30 [y.2], .row y.2 44 1 (ts.map gcell), .grp 3 1 (ts.map (sub id))]) (fun y => y.1 ≤ ts.length ∧ y.2.oneCell' = true) (fun y => ts.length - y.1) (0, lv) (.cons rfl (.cons rfl (.cons rfl (.cons rfl (.cons rfl (.cons rfl (.cons rfl (.nil)))))))) rfl ?_ ?_ ?_
       · exact ⟨Nat.zero_le _, hone⟩
       · exact ⟨rfl, trivial⟩
       rintro ⟨i, lv1⟩ ⟨hi, hlv1⟩
       dsimp only at hi hlv1 ⊢
       have hl0 : (ts.map gcell).length = ts.length := (by simp)
       by_cases hlt : i < ts.length
       case' pos => (obtain ⟨b, hb⟩ := get_of_lt hlt; have heq := get_map hb gcell; have hgi : (ts.map (sub id))[i]? = some (b.2, b.1.map icell) := get_mapS hb; have hbl2 := hbl b (List.mem_of_getElem? hb); refine G.know (fun w hw => (Rd.grp 3 rfl (List.mem_of_getElem? hgi) w hw).one_) (fun hob => ?_))
       case' neg => (have hiL : i = (ts.map Prod.fst).length := (by rw [List.length_map]; omega))
       all_goals
        refine G.seq (G.region (G.v (rv_lss rfl rfl) rfl (G.done (G.thenN (G.seq ?_))))); refine G.cond rfl (fun hc => ?_) (fun hc => ?_)
        · try exact Bool.noConfusion hc
          all_goals
           try replace hc := of_decide_eq_true hc
           try simp only [hTl2] at hc
           try (exfalso; omega)
           all_goals
            refine G.skip (G.thenN (G.seq (G.block (G.seq (G.region (G.v (rv_move rfl) rfl (G.v (rv_assign rfl) rfl (G.done (G.thenN (G.seq ?_)))))))))); refine G.drawL [] ?_; refine GE.q 0 rfl (by as_aux_lemma => kernel_rfl) rfl (qg_runs (rv_loadEW rfl (by exact (fun w hh => hF.r w (hh.drop 4))) (by rfl) rfl)) rfl ?_; refine GE.q 1 rfl (by as_aux_lemma => kernel_rfl) rfl (qg_runs (rv_load1 1 rfl rfl rfl)) rfl ?_; refine GE.q 2 rfl (by as_aux_lemma => kernel_rfl) rfl (qg_runs (rv_move rfl)) rfl ?_; refine GE.q 3 rfl (by as_aux_lemma => kernel_rfl) rfl (qg_runs (rv_indexH rfl rfl (by exact Rd.owned 2 rfl) rfl (by exact heq))) rfl ?_; refine GE.q 4 rfl (by as_aux_lemma => kernel_rfl) rfl (qg_runs (rv_loadE rfl (by exact Rd.owned 2 rfl) (by exact heq) rfl)) rfl ?_; refine GE.ol 5 (by as_aux_lemma => kernel_rfl) rfl rfl (og_runs (rv_move rfl)) rfl (fun _ _ h => by exact h) (fun _ _ => ?_); refine GE.ol 6 (by as_aux_lemma => kernel_rfl) rfl rfl (og_callV rfl rfl (fun w hh => room_any (r := r) (us := b.1) w (Rd.stays h _ hh) (Rd.stays h2 _ hh) (Rd.stays h3 _ hh) (Subs.at (by exact Subs.owned 3 rfl _ hh) hb) (by omega) x)) rfl (fun _ _ h => by exact h) (fun _ _ => ?_); refine GE.done (by as_aux_lemma => kernel_rfl) ?_; refine G.thenN ?_; refine G.cond rfl (fun hc => ?_) (fun hc => ?_)
            · try exact Bool.noConfusion hc
              all_goals
               try replace hc := of_decide_eq_true hc
               try simp only [hTl2] at hc
               try (exfalso; contradiction)
               all_goals
                have hroom : roomM r b.1 x = true := hc
                all_goals
                 refine G.seq (G.region (G.v (rv_load1 1 rfl rfl rfl) rfl (G.v (rv_move rfl) rfl ?_))); refine G.v (rv_indexH rfl rfl (by exact Rd.owned 2 rfl) rfl (by exact heq)) rfl ?_; refine G.v (rv_loadE rfl (by exact Rd.owned 2 rfl) (by exact heq) rfl) rfl ?_; refine G.v (rv_assign rfl) rfl (G.done (G.thenN (G.seq ?_))); refine G.drawL [7, 8] ?_; refine GE.q 0 rfl (by as_aux_lemma => kernel_rfl) rfl (qg_runs (rv_load1 1 rfl rfl rfl)) rfl ?_; refine GE.q 1 rfl (by as_aux_lemma => kernel_rfl) rfl (qg_runs (rv_move rfl)) rfl ?_; refine GE.q 2 rfl (by as_aux_lemma => kernel_rfl) rfl (qg_runs (rv_move rfl)) rfl ?_; refine GE.q 4 rfl (by as_aux_lemma => kernel_rfl) rfl (qg_runs (rv_move rfl)) rfl ?_; refine GE.any (rs := [3, 5]) (by as_aux_lemma => kernel_rfl) (by simp) ?_; refine List.forall_mem_cons.2 ⟨?_, List.forall_mem_cons.2 ⟨?_, fun _ h => absurd h List.not_mem_nil⟩⟩
                 focus
                   (refine GE.pickOp rfl rfl rfl (og_callF1 rfl rfl (fun w hh => clone_any (l := b.1) w (Subs.at (by exact Subs.owned 3 rfl _ hh) hb) (by omega))) rfl (fun _ _ h => by exact h.drop 1) ?_; rintro v1 hv1; try dsimp only)
                   refine GE.ol 5 (by as_aux_lemma => kernel_rfl) rfl rfl (og_lit rfl (.cons rfl .nil) rfl rfl rfl rfl rfl rfl) rfl (fun _ _ h => by exact h.drop 2) (fun vx _ => ?_); refine GE.ol 6 (by as_aux_lemma => kernel_rfl) rfl rfl (og_app1 rfl rfl rfl (by exact Rd.owned 0 rfl) rfl rfl (by (simp; omega)) (by (simp; omega))) rfl (fun _ _ h => by exact h.drop 2) (fun va _ => ?_)
                   skip; refine GE.know (fun w hw => (Rd.owned 1 rfl (v := va) w hw).one_) (fun hova => ?_)
                   refine GE.t 7 (by as_aux_lemma => kernel_rfl) rfl rfl rfl (og_runs (rv_indexH rfl rfl (by exact Rd.owned 4 rfl) rfl (by exact heq))) rfl (fun _ _ => ?_); refine GE.t0 8 (by as_aux_lemma => kernel_rfl) rfl rfl rfl (og_stE4 rfl rfl rfl (by exact heq) (cells_one (by assumption)) rfl (by repeat (first | rfl | refine one_cons (by assumption) ?_)) rfl (.zero (.cons .nil))) (fun _ _ => ?_); refine GE.done (by as_aux_lemma => kernel_rfl) ?_
                 rotate_left
                 focus
                   refine GE.pickOp rfl rfl rfl (og_lit rfl (.cons rfl .nil) rfl rfl rfl rfl rfl rfl) rfl (fun _ _ h => by exact h.drop 1) (fun vx _ => ?_)
                   (refine GE.ol 3 (by as_aux_lemma => kernel_rfl) rfl rfl (og_callF1 rfl rfl (fun w hh => clone_any (l := b.1) w (Subs.at (by exact Subs.owned 4 rfl _ hh) hb) (by omega))) rfl (fun _ _ h => by exact h.drop 2) ?_; rintro v1 hv1; try dsimp only)
                   refine GE.ol 6 (by as_aux_lemma => kernel_rfl) rfl rfl (og_app0 rfl rfl rfl (by exact Rd.owned 1 rfl) rfl rfl (by (simp; omega)) (by (simp; omega))) rfl (fun _ _ h => by exact h.drop 2) (fun va _ => ?_)
                   skip; refine GE.know (fun w hw => (Rd.owned 0 rfl (v := va) w hw).one_) (fun hova => ?_)
                   refine GE.t 7 (by as_aux_lemma => kernel_rfl) rfl rfl rfl (og_runs (rv_indexH rfl rfl (by exact Rd.owned 4 rfl) rfl (by exact heq))) rfl (fun _ _ => ?_); refine GE.t0 8 (by as_aux_lemma => kernel_rfl) rfl rfl rfl (og_stE4 rfl rfl rfl (by exact heq) (cells_one (by assumption)) rfl (by repeat (first | rfl | refine one_cons (by assumption) ?_)) rfl (.zero (.cons .nil))) (fun _ _ => ?_); refine GE.done (by as_aux_lemma => kernel_rfl) ?_
                 rotate_left
                 all_goals
                  refine G.thenN (G.seq (G.region ?_)); refine G.v (rv_loadE rfl (by exact (fun w hh => hF.p w (hh.drop 6))) (by rfl) rfl) rfl ?_; refine G.v (rv_move rfl) rfl ?_; refine G.v (rv_incr rfl rfl (by omega)) rfl ?_; refine G.frontG5 (ts.map (sub id)) rfl ?_
                  (first | refine G.frontR1 va rfl ?_ | refine G.frontR2 va rfl ?_)
                  refine G.swapOut ((ts.set i (b.1 ++ [x], va)).map (sub id)) hgi into_sub rfl ?_; refine G.frontR5 lv1 rfl ?_; refine G.rowEq ((ts.set i (b.1 ++ [x], va)).map gcell) into_g rfl ?_
                  have heq2 : ((ts.set i (b.1 ++ [x], va)).map gcell)[i]? = some (gcell (b.1 ++ [x], va)) := get_map (get_set1 hb) gcell
                  have hgi2 : ((ts.set i (b.1 ++ [x], va)).map (sub id))[i]? = some (va, (b.1 ++ [x]).map icell) := get_mapS (get_set1 hb)
                  (refine G.frontG1 ((ts.set i (b.1 ++ [x], va)).map (sub id)) rfl ?_); (refine G.frontR1 (lv1) rfl ?_); (refine G.frontB5 (ql) rfl ?_); (refine G.frontB5 (qb) rfl ?_); refine G.op (og_callMM4 rfl rfl rfl (ih m' hm' _ (k + 1) (ts.set i (b.1 ++ [x], va)) (trU r (T.drop (k + 1)) x (ts.map Prod.fst) best i) lv1 (by omega) (by exact hF.up 2 rfl) (by rw [List.length_set]; omega) (fun c hc => by rcases List.mem_or_eq_of_mem_set hc with hc | rfl; (have := hbl c hc; omega); (have := hbl b (List.mem_of_getElem? hb); simp only [List.length_append, List.length_singleton]; omega)) (Nat.le_trans (tried_le i) hbest))) rfl ?_; rintro lv2 hlv2; try dsimp only
                  refine G.done (G.thenN (G.region (G.v (rv_load1 1 rfl rfl rfl) rfl (G.v (rv_move rfl) rfl (G.v (rv_move rfl) rfl ?_))))); refine G.v (rv_indexH rfl rfl (by exact Rd.owned 2 rfl) rfl (by exact heq2)) rfl ?_; refine G.op0 (og_stE2 rfl rfl rfl (by exact heq2) (cells_one (by assumption)) rfl (by repeat (first | rfl | refine one_cons (by assumption) ?_)) rfl (.zero (.cons .nil))) (fun _ _ => ?_); refine G.done (G.inN (G.thenN (G.region ?_))); refine G.v (rv_incr rfl rfl (by omega)) rfl ?_; refine G.v (rv_move rfl) rfl (G.done ?_)
                  (refine G.frontG3 ((ts.set i (b.1 ++ [x], va)).map (sub id)) rfl ?_); (refine G.frontR4 b.2 rfl ?_); refine G.swapOut (ts.map (sub id)) hgi2 (back_sub hb) rfl ?_; (refine G.frontR4 lv2 rfl ?_); refine G.rowEq (ts.map gcell) (back_g hb) rfl ?_; (refine G.frontB4 ql rfl ?_); (refine G.frontB4 qb rfl ?_); refine G.perm (List.Perm.refl _) ?_
                  (refine G.keep4 2 rfl ?_; refine G.backK (i + 1, lv2) 0 (by (exact four_eq (congrArg (fun z : Nat => Ch.blk qb 3 [.int .i64 (z : Int)]) (by rw [List.map_set]; exact (tried_yes (fst_at hb) hroom).symm)) rfl rfl rfl)) (.cons rfl (.cons rfl (.cons rfl (.cons rfl (.cons rfl (.cons rfl (.cons rfl (.nil)))))))) ?_ ?_ ?_)
                  · exact ⟨rfl, trivial⟩
                  · exact ⟨hlt, by assumption⟩
                  · dsimp only; omega
            · try exact Bool.noConfusion hc
              all_goals
               try replace hc := of_decide_eq_false hc
               try simp only [hTl2] at hc
               try (exfalso; contradiction)
               all_goals
                have hroom : roomM r b.1 x = false := hc
                all_goals
                 refine G.skip (G.inN (G.thenN (G.region ?_))); refine G.v (rv_incr rfl rfl (by omega)) rfl ?_; refine G.v (rv_move rfl) rfl (G.done ?_)
                 (refine G.frontR2 lv1 rfl ?_); (refine G.frontB2 ql rfl ?_); (refine G.frontB2 qb rfl ?_)
                 (refine G.keep4 0 rfl ?_; refine G.backK (i + 1, lv1) 0 (by exact four_eq (congrArg (fun z : Nat => Ch.blk qb 3 [.int .i64 (z : Int)]) (tried_no (fst_at hb) hroom).symm) rfl rfl rfl) (.cons rfl (.cons rfl (.cons rfl (.cons rfl (.cons rfl (.cons rfl (.cons rfl (.nil)))))))) ?_ ?_ ?_)
                 · exact ⟨rfl, trivial⟩
                 · exact ⟨hlt, by assumption⟩
                 · dsimp only; omega
        · try exact Bool.noConfusion hc
          all_goals
           try replace hc := of_decide_eq_false hc
           try simp only [hTl2] at hc
           try (exfalso; omega)
           all_goals
            refine G.exit (G.thenX (G.thenX (G.inX (G.thenN (G.seq (G.region (G.v (rv_load1 1 rfl rfl rfl) rfl ?_))))))); refine G.v (rv_len rfl (by exact Rd.owned 2 rfl)) rfl ?_; refine G.v (rv_incr rfl rfl (by omega)) rfl ?_; refine G.v (rv_load1 0 rfl rfl rfl) rfl (G.v (rv_lss rfl rfl) rfl (G.v (rv_move rfl) rfl ?_))
            all_goals (((with_reducible refine G.gP rfl rfl (fun hg => ?_) (fun hg => ?_)) <;> (try exact Bool.noConfusion hg) <;> (first | (refine G.gY rfl rfl ?_; refine G.v (rv_move rfl) rfl ?_) | refine G.gN rfl rfl rfl ?_)))
            all_goals ((first | (refine G.gY rfl rfl ?_; refine G.v (rv_eql rfl rfl) rfl ?_) | refine G.gN rfl rfl rfl ?_))
            all_goals ((first | refine G.v (rv_pickT rfl rfl) rfl ?_ | refine G.v (rv_pickF rfl rfl) rfl ?_))
            all_goals
             refine G.done (G.thenN ?_); refine G.cond rfl (fun hc => ?_) (fun hc => ?_)
             · try exact Bool.noConfusion hc
               all_goals
                try replace hc := of_decide_eq_true hc
                try simp only [hTl2] at hc
                try (exfalso; contradiction)
                all_goals
                 refine G.seq (G.region (G.v (rv_load1 1 rfl rfl rfl) rfl (G.v (rv_move rfl) rfl ?_))); refine G.op (og_lit rfl (.cons rfl .nil) rfl rfl rfl rfl rfl rfl) rfl (fun vl _ => ?_); refine G.know (fun w hw => (Rd.owned 0 rfl w hw).one_) (fun hovl => ?_); refine G.op (og_lit rfl (.cons (cells_one (by assumption)) .nil) (by simp only [List.all_cons, List.all_nil, Bool.and_true, Bool.and_eq_true]; exact ⟨rfl, by assumption⟩) rfl rfl rfl rfl rfl) rfl (fun vm _ => ?_); refine G.op (og_app4 rfl rfl rfl (by exact Rd.owned 0 rfl) rfl rfl (by (simp; omega)) (by (simp; omega))) rfl (fun va2 _ => ?_)
                 skip; refine G.know (fun w hw => (Rd.owned 4 rfl (v := va2) w hw).one_) (fun hova2 => ?_)
                 refine G.op0 (og_st3 rfl rfl rfl (cells_one (by assumption)) rfl (by repeat (first | rfl | refine one_cons (by assumption) ?_)) (.zero (.cons .nil))) (fun _ _ => ?_); refine G.done (G.thenN (G.seq (G.region ?_))); refine G.v (rv_loadE rfl (by exact (fun w hh => hF.p w (hh.drop 6))) (by rfl) rfl) rfl ?_; refine G.v (rv_move rfl) rfl ?_; refine G.v (rv_incr rfl rfl (by omega)) rfl ?_; refine G.frontG5 (ts.map (sub id)) rfl ?_; refine G.frontR2 vl rfl ?_; refine G.pushRow ((ts ++ [([x], vl)]).map (sub id)) push_sub rfl ?_; refine G.frontR4 va2 rfl ?_; refine G.rowEq ((ts ++ [([x], vl)]).map gcell) push_g rfl ?_
                 (refine G.frontG1 ((ts ++ [([x], vl)]).map (sub id)) rfl ?_); (refine G.frontR1 (va2) rfl ?_); (refine G.frontB4 (ql) rfl ?_); (refine G.frontB4 (qb) rfl ?_); refine G.op (og_callMM4 rfl rfl rfl (ih m' hm' _ (k + 1) (ts ++ [([x], vl)]) (trU r (T.drop (k + 1)) x (ts.map Prod.fst) best i) va2 (by omega) (by exact hF.up 1 rfl) (by simp; omega) (fun c hc => by rcases List.mem_append.1 hc with hc | hc; (have := hbl c hc; omega); (obtain rfl : c = ([x], vl) := (by simpa using hc)); show 1 ≤ k + 1; omega) (Nat.le_trans (tried_le i) hbest))) rfl ?_; rintro lv3 hlv3; try dsimp only
                 refine G.done (G.thenN (G.region (G.v (rv_load1 1 rfl rfl rfl) rfl (G.v (rv_load1 1 rfl rfl rfl) rfl ?_)))); refine G.v (rv_len rfl (by exact Rd.owned 2 rfl)) rfl ?_; refine G.v (rv_decr rfl rfl (by simp) (by simp; omega)) rfl ?_; refine G.v (rv_sliceH rfl rfl (by exact Rd.owned 2 rfl) (by simp)) rfl ?_; refine G.know (fun w hw => ((Rd.owned 2 rfl w hw).subH (k := ((ts ++ [([x], vl)]).map gcell).length - 1) (by simp)).one_) (fun hcut => ?_); refine G.op0 (og_st1 rfl rfl rfl (cells_one (by assumption)) rfl (by repeat (first | rfl | refine one_cons (by assumption) ?_)) (.zero (.cons .nil))) (fun _ _ => ?_); refine G.done ?_
                 (refine G.frontG3 ((ts ++ [([x], vl)]).map (sub id)) rfl ?_); refine G.grpSub (ts.map (sub id)) (by rw [List.map_append]; exact List.sublist_append_left _ _) rfl ?_; (refine G.frontR3 lv3 rfl ?_); refine G.cutE (((ts ++ [([x], vl)]).map gcell).length - 1) (by simp) cut_g rfl ?_; (refine G.frontB3 ql rfl ?_); (refine G.frontB3 qb rfl ?_); refine G.endF0 (subV lv3 1 0 (((ts ++ [([x], vl)]).map gcell).length - 1)) hcut rfl rfl (fun w hw => ?_); rw [hdr, show min best (fewU r (x :: T.drop (k + 1)) (ts.map Prod.fst)) = min (trU r (T.drop (k + 1)) x (ts.map Prod.fst) best (ts.map Prod.fst).length) (fewU r (T.drop (k + 1)) (ts.map Prod.fst ++ [[x]])) from tried_all.symm, ← hiL]; rw [List.map_append] at hw; exact hw.sublist (by repeat (first | exact List.Sublist.refl _ | refine List.Sublist.cons_cons _ ?_ | refine List.Sublist.cons _ ?_))
             · try exact Bool.noConfusion hc
               all_goals
                try replace hc := of_decide_eq_false hc
                try simp only [hTl2] at hc
                try (exfalso; contradiction)
                all_goals
                 have hskip : ¬ (ts.map Prod.fst).length + 1 < trU r (T.drop (k + 1)) x (ts.map Prod.fst) best (ts.map Prod.fst).length := (by rw [← hiL]; have hq := of_decide_eq_false hg; rw [List.length_map] at hq hiL; omega)
                 all_goals
                  refine G.skip ?_
                  (refine G.endF0 lv1 hlv1 rfl rfl (fun w hw => ?_); rw [hdr, show min best (fewU r (x :: T.drop (k + 1)) (ts.map Prod.fst)) = trU r (T.drop (k + 1)) x (ts.map Prod.fst) best (ts.map Prod.fst).length from (tried_skip hskip).symm, ← hiL]; exact hw.sublist (by repeat (exact List.Sublist.refl _)))
theorem best1_any {w0 : World} {r : ReqM} {pv tv iv : Value} {T : List Int} {qt qb ql qr qp : Nat} {uv : Value} (h : Rd w0 pv 2 (r.pairs.map PairM.cells)) (h2 : Rd w0 tv 7 (r.types.map TypeM.cells)) (h3 : Rd w0 iv 7 (r.items.map ItemM.cells)) (hT8 : T.length ≤ 8) : ∀ m, TryI w0 r pv tv iv T qt qb ql qr qp uv m
  | 0 => best1_step h h2 h3 hT8 0 (fun m' h => by omega)
  | m + 1 => best1_step h h2 h3 hT8 (m + 1) (fun m' hm => by obtain rfl : m = m' := (by omega); exact best1_any h h2 h3 hT8 m)
end Go.Proofs.YtibkggjbkgdnkaaGreat

/-
  The fewest cartons: the program's way, and the law.
-/
namespace Go.Proofs.YtibkggjbkgdnkaaGreat
open Go.RowKit
attribute [local irreducible] Go.wpList Go.Code.wp Go.Exit.then Go.Exit.inBlock Go.bodyPost Go.Calls pE pB G RunsV FnV Fn FnM
set_option maxRecDepth 100000
set_option maxHeartbeats 4000000
section
variable {r : ReqM} {pv tv iv uv : Value} {us : List Int} (w : World) (h : Rd w pv 2 (r.pairs.map PairM.cells)) (h2 : Rd w tv 7 (r.types.map TypeM.cells)) (h3 : Rd w iv 7 (r.items.map ItemM.cells)) (h4 : Rd w uv 1 (us.map icell)) (hul : us.length ≤ 1048576)
include h h2 h3 h4 hul
theorem best_any : FnV Tryz.prog 49 [.agg (r.cells pv tv iv).toArray, uv] w (.int .i64 (bestM r us)) := by
  obtain ⟨T, hT⟩ : ∃ T, T = thereM r us := ⟨_, rfl⟩
  have hTl2 : (T.map icell).length = T.length := by simp
  have hall : (r.cells pv tv iv).all Value.oneCell' = true := req_all h.one_ h2.one_ h3.one_
  refine FnV.of (n := 27) Tryz.func49 rfl rfl ?_; refine G.seq (G.region ?_); refine G.op (og_box rfl rfl) rfl (fun bk2 _ => ?_); refine G.v (rv_assign rfl) rfl (G.done (G.thenN (G.seq (G.region ?_))))
  (first | refine G.v (rv_loadW 0 rfl rfl rfl) rfl ?_ | refine G.v (rv_loadW 1 rfl rfl rfl) rfl ?_ | refine G.v (rv_loadW 2 rfl rfl rfl) rfl ?_ | refine G.v (rv_loadW 3 rfl rfl rfl) rfl ?_ | refine G.v (rv_loadW 4 rfl rfl rfl) rfl ?_ | refine G.v (rv_loadW 5 rfl rfl rfl) rfl ?_ | refine G.v (rv_loadW 6 rfl rfl rfl) rfl ?_ | refine G.v (rv_loadW 7 rfl rfl rfl) rfl ?_ | refine G.v (rv_loadP 0 rfl rfl (.one (.one (.one (.one (.one (.one (.one (.one (.one (.one .nil))))))))))) rfl ?_ | refine G.v (rv_loadP 1 rfl rfl (.one (.one (.one (.one (.one (.one (.one (.one (.one (.one .nil))))))))))) rfl ?_ | refine G.v (rv_loadP 2 rfl rfl (.one (.one (.one (.one (.one (.one (.one (.one (.one (.one .nil))))))))))) rfl ?_ | refine G.v (rv_loadP 3 rfl rfl (.one (.one (.one (.one (.one (.one (.one (.one (.one (.one .nil))))))))))) rfl ?_ | refine G.v (rv_loadP 4 rfl rfl (.one (.one (.one (.one (.one (.one (.one (.one (.one (.one .nil))))))))))) rfl ?_ | refine G.v (rv_loadP 5 rfl rfl (.one (.one (.one (.one (.one (.one (.one (.one (.one (.one .nil))))))))))) rfl ?_ | refine G.v (rv_loadP 6 rfl rfl (.one (.one (.one (.one (.one (.one (.one (.one (.one (.one .nil))))))))))) rfl ?_ | refine G.v (rv_loadP 7 rfl rfl (.one (.one (.one (.one (.one (.one (.one (.one (.one (.one .nil))))))))))) rfl ?_)
  refine G.v (rv_move rfl) rfl ?_
  (refine G.op (og_callF1 rfl rfl (fun w hh => by have q := thereOf_any (r := r) (us := us) w (Rd.stays h _ hh) (Rd.stays h2 _ hh) (Rd.stays h3 _ hh) (Rd.stays h4 _ hh) hul; rw [← hT] at q; exact q)) rfl ?_; rintro vt hvt; try dsimp only)
  refine G.op (og_alloc) rfl (fun bk5 _ => ?_)
  (first | refine G.op0 (og_st0 rfl rfl rfl (cells_one (by first | rfl | assumption)) rfl (by repeat (first | rfl | refine one_cons (by first | rfl | assumption) ?_)) (.zero (.cons .nil))) (fun _ _ => ?_) | refine G.op0 (og_st1 rfl rfl rfl (cells_one (by first | rfl | assumption)) rfl (by repeat (first | rfl | refine one_cons (by first | rfl | assumption) ?_)) (.zero (.cons .nil))) (fun _ _ => ?_) | refine G.op0 (og_st2 rfl rfl rfl (cells_one (by first | rfl | assumption)) rfl (by repeat (first | rfl | refine one_cons (by first | rfl | assumption) ?_)) (.zero (.cons .nil))) (fun _ _ => ?_) | refine G.op0 (og_st3 rfl rfl rfl (cells_one (by first | rfl | assumption)) rfl (by repeat (first | rfl | refine one_cons (by first | rfl | assumption) ?_)) (.zero (.cons .nil))) (fun _ _ => ?_) | refine G.op0 (og_st4 rfl rfl rfl (cells_one (by first | rfl | assumption)) rfl (by repeat (first | rfl | refine one_cons (by first | rfl | assumption) ?_)) (.zero (.cons .nil))) (fun _ _ => ?_) | refine G.op0 (og_st5 rfl rfl rfl (cells_one (by first | rfl | assumption)) rfl (by repeat (first | rfl | refine one_cons (by first | rfl | assumption) ?_)) (.zero (.cons .nil))) (fun _ _ => ?_) | refine G.op0 (og_st6 rfl rfl rfl (cells_one (by first | rfl | assumption)) rfl (by repeat (first | rfl | refine one_cons (by first | rfl | assumption) ?_)) (.zero (.cons .nil))) (fun _ _ => ?_) | refine G.op0 (og_st7 rfl rfl rfl (cells_one (by first | rfl | assumption)) rfl (by repeat (first | rfl | refine one_cons (by first | rfl | assumption) ?_)) (.zero (.cons .nil))) (fun _ _ => ?_))
  refine G.done (G.thenN (G.seq (G.seq (G.region ?_))))
  (first | refine G.v (rv_loadW 0 rfl rfl rfl) rfl ?_ | refine G.v (rv_loadW 1 rfl rfl rfl) rfl ?_ | refine G.v (rv_loadW 2 rfl rfl rfl) rfl ?_ | refine G.v (rv_loadW 3 rfl rfl rfl) rfl ?_ | refine G.v (rv_loadW 4 rfl rfl rfl) rfl ?_ | refine G.v (rv_loadW 5 rfl rfl rfl) rfl ?_ | refine G.v (rv_loadW 6 rfl rfl rfl) rfl ?_ | refine G.v (rv_loadW 7 rfl rfl rfl) rfl ?_ | refine G.v (rv_loadP 0 rfl rfl (.one (.one (.one (.one (.one (.one (.one (.one (.one (.one .nil))))))))))) rfl ?_ | refine G.v (rv_loadP 1 rfl rfl (.one (.one (.one (.one (.one (.one (.one (.one (.one (.one .nil))))))))))) rfl ?_ | refine G.v (rv_loadP 2 rfl rfl (.one (.one (.one (.one (.one (.one (.one (.one (.one (.one .nil))))))))))) rfl ?_ | refine G.v (rv_loadP 3 rfl rfl (.one (.one (.one (.one (.one (.one (.one (.one (.one (.one .nil))))))))))) rfl ?_ | refine G.v (rv_loadP 4 rfl rfl (.one (.one (.one (.one (.one (.one (.one (.one (.one (.one .nil))))))))))) rfl ?_ | refine G.v (rv_loadP 5 rfl rfl (.one (.one (.one (.one (.one (.one (.one (.one (.one (.one .nil))))))))))) rfl ?_ | refine G.v (rv_loadP 6 rfl rfl (.one (.one (.one (.one (.one (.one (.one (.one (.one (.one .nil))))))))))) rfl ?_ | refine G.v (rv_loadP 7 rfl rfl (.one (.one (.one (.one (.one (.one (.one (.one (.one (.one .nil))))))))))) rfl ?_)
  refine G.op (og_callV rfl rfl (fun w hh => sound_any (r := r) w (Rd.stays h _ hh) (Rd.stays h2 _ hh) (Rd.stays h3 _ hh))) rfl (fun _ _ => ?_); refine G.v (rv_not rfl) rfl (G.v (rv_move rfl) rfl ?_)
  all_goals (((with_reducible refine G.gP rfl rfl (fun hg => ?_) (fun hg => ?_)) <;> (try exact Bool.noConfusion hg) <;> (first | (refine G.gY rfl rfl ?_; (first | refine G.v (rv_load1 0 rfl rfl rfl) rfl ?_ | refine G.v (rv_load1 1 rfl rfl rfl) rfl ?_ | refine G.v (rv_load1 2 rfl rfl rfl) rfl ?_ | refine G.v (rv_load1 3 rfl rfl rfl) rfl ?_ | refine G.v (rv_load1 4 rfl rfl rfl) rfl ?_ | refine G.v (rv_load1 5 rfl rfl rfl) rfl ?_ | refine G.v (rv_load1 6 rfl rfl rfl) rfl ?_ | refine G.v (rv_load1 7 rfl rfl rfl) rfl ?_)) | refine G.gN rfl rfl rfl ?_ | refine G.gU rfl rfl rfl ?_)))
  all_goals ((first | (refine G.gY rfl rfl ?_; refine G.v (rv_len rfl (by first | exact Rd.stays (by assumption) | exact Rd.owned 0 rfl | exact Rd.owned 1 rfl | exact Rd.owned 2 rfl | exact Rd.owned 3 rfl | exact Rd.owned 4 rfl | exact Rd.owned 5 rfl | exact Rd.owned 6 rfl | exact Rd.owned 7 rfl)) rfl ?_) | refine G.gN rfl rfl rfl ?_ | refine G.gU rfl rfl rfl ?_))
  all_goals ((first | (refine G.gY rfl rfl ?_; refine G.v (rv_gtr rfl rfl) rfl ?_) | refine G.gN rfl rfl rfl ?_ | refine G.gU rfl rfl rfl ?_))
  all_goals ((first | refine G.v (rv_pickT rfl rfl) rfl ?_ | refine G.v (rv_pickF rfl rfl) rfl ?_))
  all_goals
   refine G.done (G.thenN ?_); refine G.cond rfl (fun hc => ?_) (fun hc => ?_)
   · try exact Bool.noConfusion hc
     all_goals
      try replace hc := of_decide_eq_true hc
      try simp only [hTl2] at hc
      try (exfalso; first | contradiction | omega)
      all_goals
       have hbad : bestM r us = -1 := (by first | exact best_no (by simpa using hg) | exact best_many (by rw [← hT]; omega))
       all_goals
        refine G.seq (G.region (G.v (rv_assign rfl) rfl (G.done (G.thenN (G.ret (G.thenR ?_))))))
        first | exact G.retFV rfl rfl (congrArg (Value.int .i64) hbad.symm) | exact G.retFV rfl rfl (congrArg (Value.int .i64) (by rw [best_yes hyes (by rw [← hT]; exact hT8), ← hT, hTl2]; have := few_le (p := roomM r) (add := fun l u => l ++ [u]) (one := fun u => [u]) T []; rw [List.length_nil, Nat.zero_add] at this; exact congrArg Int.ofNat (Nat.min_eq_right this)))
   · try exact Bool.noConfusion hc
     all_goals
      try replace hc := of_decide_eq_false hc
      try simp only [hTl2] at hc
      try (exfalso; first | contradiction | omega)
      all_goals
       have hyes : classM r = 0 := by simpa using hg
       have hT8 : T.length ≤ 8 := by omega
       all_goals
        refine G.skip (G.thenN (G.seq (G.region ?_)))
        (first | refine G.v (rv_load1 0 rfl rfl rfl) rfl ?_ | refine G.v (rv_load1 1 rfl rfl rfl) rfl ?_ | refine G.v (rv_load1 2 rfl rfl rfl) rfl ?_ | refine G.v (rv_load1 3 rfl rfl rfl) rfl ?_ | refine G.v (rv_load1 4 rfl rfl rfl) rfl ?_ | refine G.v (rv_load1 5 rfl rfl rfl) rfl ?_ | refine G.v (rv_load1 6 rfl rfl rfl) rfl ?_ | refine G.v (rv_load1 7 rfl rfl rfl) rfl ?_)
        refine G.v (rv_len rfl (by first | exact Rd.stays (by assumption) | exact Rd.owned 0 rfl | exact Rd.owned 1 rfl | exact Rd.owned 2 rfl | exact Rd.owned 3 rfl | exact Rd.owned 4 rfl | exact Rd.owned 5 rfl | exact Rd.owned 6 rfl | exact Rd.owned 7 rfl)) rfl ?_; refine G.op (og_alloc) rfl (fun bk6 _ => ?_)
        (first | refine G.op0 (og_st0 rfl rfl rfl rfl rfl rfl (.zero (.cons .nil))) (fun _ _ => ?_) | refine G.op0 (og_st1 rfl rfl rfl rfl rfl rfl (.zero (.cons .nil))) (fun _ _ => ?_) | refine G.op0 (og_st2 rfl rfl rfl rfl rfl rfl (.zero (.cons .nil))) (fun _ _ => ?_) | refine G.op0 (og_st3 rfl rfl rfl rfl rfl rfl (.zero (.cons .nil))) (fun _ _ => ?_) | refine G.op0 (og_st4 rfl rfl rfl rfl rfl rfl (.zero (.cons .nil))) (fun _ _ => ?_) | refine G.op0 (og_st5 rfl rfl rfl rfl rfl rfl (.zero (.cons .nil))) (fun _ _ => ?_) | refine G.op0 (og_st6 rfl rfl rfl rfl rfl rfl (.zero (.cons .nil))) (fun _ _ => ?_) | refine G.op0 (og_st7 rfl rfl rfl rfl rfl rfl (.zero (.cons .nil))) (fun _ _ => ?_))
        refine G.done (G.thenN (G.seq (G.region ?_))); refine G.op (og_lit rfl .nil rfl rfl rfl rfl rfl rfl) rfl (fun vl _ => ?_); refine G.know (fun w hw => (Rd.owned 0 rfl w hw).one_) (fun hovl => ?_); refine G.op (og_alloc) rfl (fun bk7 _ => ?_)
        (first | refine G.op0 (og_st0 rfl rfl rfl (cells_one (by first | rfl | assumption)) rfl (by repeat (first | rfl | refine one_cons (by first | rfl | assumption) ?_)) (.zero (.cons .nil))) (fun _ _ => ?_) | refine G.op0 (og_st1 rfl rfl rfl (cells_one (by first | rfl | assumption)) rfl (by repeat (first | rfl | refine one_cons (by first | rfl | assumption) ?_)) (.zero (.cons .nil))) (fun _ _ => ?_) | refine G.op0 (og_st2 rfl rfl rfl (cells_one (by first | rfl | assumption)) rfl (by repeat (first | rfl | refine one_cons (by first | rfl | assumption) ?_)) (.zero (.cons .nil))) (fun _ _ => ?_) | refine G.op0 (og_st3 rfl rfl rfl (cells_one (by first | rfl | assumption)) rfl (by repeat (first | rfl | refine one_cons (by first | rfl | assumption) ?_)) (.zero (.cons .nil))) (fun _ _ => ?_) | refine G.op0 (og_st4 rfl rfl rfl (cells_one (by first | rfl | assumption)) rfl (by repeat (first | rfl | refine one_cons (by first | rfl | assumption) ?_)) (.zero (.cons .nil))) (fun _ _ => ?_) | refine G.op0 (og_st5 rfl rfl rfl (cells_one (by first | rfl | assumption)) rfl (by repeat (first | rfl | refine one_cons (by first | rfl | assumption) ?_)) (.zero (.cons .nil))) (fun _ _ => ?_) | refine G.op0 (og_st6 rfl rfl rfl (cells_one (by first | rfl | assumption)) rfl (by repeat (first | rfl | refine one_cons (by first | rfl | assumption) ?_)) (.zero (.cons .nil))) (fun _ _ => ?_) | refine G.op0 (og_st7 rfl rfl rfl (cells_one (by first | rfl | assumption)) rfl (by repeat (first | rfl | refine one_cons (by first | rfl | assumption) ?_)) (.zero (.cons .nil))) (fun _ _ => ?_))
        refine G.done (G.thenN (G.seq (G.region ?_))); refine G.op (og_alloc) rfl (fun bk8 _ => ?_); refine G.done (G.thenN (G.seq (G.region (G.v (rv_makeFunc rfl rfl) rfl ?_))))
        (first | refine G.op0 (og_st0 rfl rfl rfl rfl rfl rfl (.zero (.cons .nil))) (fun _ _ => ?_) | refine G.op0 (og_st1 rfl rfl rfl rfl rfl rfl (.zero (.cons .nil))) (fun _ _ => ?_) | refine G.op0 (og_st2 rfl rfl rfl rfl rfl rfl (.zero (.cons .nil))) (fun _ _ => ?_) | refine G.op0 (og_st3 rfl rfl rfl rfl rfl rfl (.zero (.cons .nil))) (fun _ _ => ?_) | refine G.op0 (og_st4 rfl rfl rfl rfl rfl rfl (.zero (.cons .nil))) (fun _ _ => ?_) | refine G.op0 (og_st5 rfl rfl rfl rfl rfl rfl (.zero (.cons .nil))) (fun _ _ => ?_) | refine G.op0 (og_st6 rfl rfl rfl rfl rfl rfl (.zero (.cons .nil))) (fun _ _ => ?_) | refine G.op0 (og_st7 rfl rfl rfl rfl rfl rfl (.zero (.cons .nil))) (fun _ _ => ?_))
        refine G.done (G.thenN (G.seq (G.region ?_)))
        (first | refine G.v (rv_load1 0 rfl rfl rfl) rfl ?_ | refine G.v (rv_load1 1 rfl rfl rfl) rfl ?_ | refine G.v (rv_load1 2 rfl rfl rfl) rfl ?_ | refine G.v (rv_load1 3 rfl rfl rfl) rfl ?_ | refine G.v (rv_load1 4 rfl rfl rfl) rfl ?_ | refine G.v (rv_load1 5 rfl rfl rfl) rfl ?_ | refine G.v (rv_load1 6 rfl rfl rfl) rfl ?_ | refine G.v (rv_load1 7 rfl rfl rfl) rfl ?_)
        refine G.heap (fun w hh => hh.nilGrp 3 1) ?_
        ((first | refine G.frontG0 ([]) rfl ?_ | refine G.frontG1 ([]) rfl ?_ | refine G.frontG2 ([]) rfl ?_ | refine G.frontG3 ([]) rfl ?_ | refine G.frontG4 ([]) rfl ?_ | refine G.frontG5 ([]) rfl ?_ | refine G.frontG6 ([]) rfl ?_ | refine G.frontG7 ([]) rfl ?_ | refine G.frontG8 ([]) rfl ?_ | refine G.frontG9 ([]) rfl ?_ | refine G.frontG10 ([]) rfl ?_ | refine G.frontG11 ([]) rfl ?_ | refine G.frontG12 ([]) rfl ?_ | refine G.frontG13 ([]) rfl ?_ | refine G.frontG14 ([]) rfl ?_ | refine G.frontG15 ([]) rfl ?_); (first | refine G.frontR0 (vl) rfl ?_ | refine G.frontR1 (vl) rfl ?_ | refine G.frontR2 (vl) rfl ?_ | refine G.frontR3 (vl) rfl ?_ | refine G.frontR4 (vl) rfl ?_ | refine G.frontR5 (vl) rfl ?_ | refine G.frontR6 (vl) rfl ?_ | refine G.frontR7 (vl) rfl ?_ | refine G.frontR8 (vl) rfl ?_ | refine G.frontR9 (vl) rfl ?_ | refine G.frontR10 (vl) rfl ?_ | refine G.frontR11 (vl) rfl ?_ | refine G.frontR12 (vl) rfl ?_ | refine G.frontR13 (vl) rfl ?_ | refine G.frontR14 (vl) rfl ?_ | refine G.frontR15 (vl) rfl ?_); (first | refine G.frontB0 (bk7) rfl ?_ | refine G.frontB1 (bk7) rfl ?_ | refine G.frontB2 (bk7) rfl ?_ | refine G.frontB3 (bk7) rfl ?_ | refine G.frontB4 (bk7) rfl ?_ | refine G.frontB5 (bk7) rfl ?_ | refine G.frontB6 (bk7) rfl ?_ | refine G.frontB7 (bk7) rfl ?_ | refine G.frontB8 (bk7) rfl ?_ | refine G.frontB9 (bk7) rfl ?_ | refine G.frontB10 (bk7) rfl ?_ | refine G.frontB11 (bk7) rfl ?_ | refine G.frontB12 (bk7) rfl ?_ | refine G.frontB13 (bk7) rfl ?_ | refine G.frontB14 (bk7) rfl ?_ | refine G.frontB15 (bk7) rfl ?_); (first | refine G.frontB0 (bk6) rfl ?_ | refine G.frontB1 (bk6) rfl ?_ | refine G.frontB2 (bk6) rfl ?_ | refine G.frontB3 (bk6) rfl ?_ | refine G.frontB4 (bk6) rfl ?_ | refine G.frontB5 (bk6) rfl ?_ | refine G.frontB6 (bk6) rfl ?_ | refine G.frontB7 (bk6) rfl ?_ | refine G.frontB8 (bk6) rfl ?_ | refine G.frontB9 (bk6) rfl ?_ | refine G.frontB10 (bk6) rfl ?_ | refine G.frontB11 (bk6) rfl ?_ | refine G.frontB12 (bk6) rfl ?_ | refine G.frontB13 (bk6) rfl ?_ | refine G.frontB14 (bk6) rfl ?_ | refine G.frontB15 (bk6) rfl ?_); refine G.op (og_callMM4 rfl rfl rfl (best1_any h h2 h3 hT8 T.length _ 0 [] (T.map icell).length vl (by omega) ⟨by first | exact fun w hh => Rd.ofBlk 0 rfl (one_cons hvt rfl) w hh | exact fun w hh => Rd.ofBlk 1 rfl (one_cons hvt rfl) w hh | exact fun w hh => Rd.ofBlk 2 rfl (one_cons hvt rfl) w hh | exact fun w hh => Rd.ofBlk 3 rfl (one_cons hvt rfl) w hh | exact fun w hh => Rd.ofBlk 4 rfl (one_cons hvt rfl) w hh, by first | exact Rd.owned 0 rfl | exact Rd.owned 1 rfl | exact Rd.owned 2 rfl | exact Rd.owned 3 rfl | exact Rd.owned 4 rfl, by first | exact fun w hh => Rd.ofBlk 0 rfl hall w hh | exact fun w hh => Rd.ofBlk 1 rfl hall w hh | exact fun w hh => Rd.ofBlk 2 rfl hall w hh | exact fun w hh => Rd.ofBlk 3 rfl hall w hh | exact fun w hh => Rd.ofBlk 4 rfl hall w hh, by first | exact fun w hh => Rd.ofBlk 0 rfl rfl w hh | exact fun w hh => Rd.ofBlk 1 rfl rfl w hh | exact fun w hh => Rd.ofBlk 2 rfl rfl w hh | exact fun w hh => Rd.ofBlk 3 rfl rfl w hh⟩ (Nat.zero_le _) (fun b hb => by simp at hb) (by rw [hTl2]; omega))) rfl ?_; rintro lv3 hlv3; try dsimp only)
        refine G.done (G.thenN (G.seq (G.region ?_)))
        (first | refine G.v (rv_load1 0 rfl rfl rfl) rfl ?_ | refine G.v (rv_load1 1 rfl rfl rfl) rfl ?_ | refine G.v (rv_load1 2 rfl rfl rfl) rfl ?_ | refine G.v (rv_load1 3 rfl rfl rfl) rfl ?_ | refine G.v (rv_load1 4 rfl rfl rfl) rfl ?_ | refine G.v (rv_load1 5 rfl rfl rfl) rfl ?_ | refine G.v (rv_load1 6 rfl rfl rfl) rfl ?_ | refine G.v (rv_load1 7 rfl rfl rfl) rfl ?_)
        refine G.v (rv_assign rfl) rfl (G.done (G.thenN (G.ret ?_)))
        first | exact G.retFV rfl rfl (congrArg (Value.int .i64) hbad.symm) | exact G.retFV rfl rfl (congrArg (Value.int .i64) (by rw [best_yes hyes (by rw [← hT]; exact hT8), ← hT, hTl2]; have := few_le (p := roomM r) (add := fun l u => l ++ [u]) (one := fun u => [u]) T []; rw [List.length_nil, Nat.zero_add] at this; exact congrArg Int.ofNat (Nat.min_eq_right this)))
end
end Go.Proofs.YtibkggjbkgdnkaaGreat

/-
  No packing has fewer cartons than the lower bounds say.
-/
namespace Go.Proofs.YtibkggjbkgdnkaaGreat
theorem perm_sumL {xs ys : List Int} (h : xs.Perm ys) : xs.sum = ys.sum := by
  induction h with
  | nil => rfl
  | cons x _ ih => simp only [List.sum_cons, ih]
  | swap x y l => simp only [List.sum_cons]; omega
  | trans _ _ ih1 ih2 => rw [ih1, ih2]
theorem flat_sum {f : Int → Int} {cap : Int} : ∀ {cs : List (List Int)}, (∀ g ∈ cs, (g.map f).sum ≤ cap) → (cs.flatten.map f).sum ≤ cap * cs.length
  | [], _ => by simp
  | g :: r, h => by
    have h1 := h g List.mem_cons_self
    have ih := flat_sum (cs := r) (fun c hc => h c (List.mem_cons_of_mem _ hc))
    rw [List.flatten_cons, List.map_append, List.sum_append, List.length_cons, Int.natCast_add, Int.mul_add]
    omega
theorem sum_ge0 {f : Int → Int} (hf : ∀ u, 0 ≤ f u) : ∀ g : List Int, 0 ≤ (g.map f).sum
  | [] => by simp
  | x :: r => by have := sum_ge0 hf r; have := hf x; rw [List.map_cons, List.sum_cons]; omega
theorem sum_count {f : Int → Int} (hf : ∀ u, 0 ≤ f u) {cap : Int} : ∀ g : List Int, cap * (g.countP (fun u => decide (2 * f u > cap)) : Int) ≤ 2 * (g.map f).sum ∧ (1 ≤ g.countP (fun u => decide (2 * f u > cap)) → cap * (g.countP (fun u => decide (2 * f u > cap)) : Int) < 2 * (g.map f).sum)
  | [] => by simp
  | x :: r => by
    obtain ⟨h1, h2⟩ := sum_count hf (cap := cap) r
    have h3 := hf x
    rw [List.map_cons, List.sum_cons, List.countP_cons]
    by_cases hx : 2 * f x > cap
    · simp only [hx, decide_true, if_true]
      rw [Int.natCast_add, Int.mul_add]
      constructor
      · omega
      · intro _; omega
    · simp only [hx, decide_false, Bool.false_eq_true, if_false, Nat.add_zero]
      constructor
      · omega
      · intro hk; have := h2 hk; omega
theorem one_wide {f : Int → Int} (hf : ∀ u, 0 ≤ f u) {cap : Int} (hc : 0 ≤ cap) {g : List Int} (h : (g.map f).sum ≤ cap) : g.countP (fun u => decide (2 * f u > cap)) ≤ 1 := by
  rcases Nat.lt_or_ge 1 (g.countP (fun u => decide (2 * f u > cap))) with hk | hk
  · exfalso
    have := (sum_count hf (cap := cap) g).2 (by omega)
    have h2 : cap * 2 ≤ cap * (g.countP (fun u => decide (2 * f u > cap)) : Int) := Int.mul_le_mul_of_nonneg_left (by omega) hc
    omega
  · exact hk
theorem flat_count {p : Int → Bool} : ∀ {cs : List (List Int)}, (∀ g ∈ cs, g.countP p ≤ 1) → cs.flatten.countP p ≤ cs.length
  | [], _ => by simp
  | g :: r, h => by
    have h1 := h g List.mem_cons_self
    have ih := flat_count (cs := r) (fun c hc => h c (List.mem_cons_of_mem _ hc))
    rw [List.flatten_cons, List.countP_append, List.length_cons]
    omega
theorem upBy_le {a b : Int} {n : Nat} (h0 : 0 ≤ a) (hb : 1 ≤ b) (h : a ≤ b * n) : upByM a b ≤ n := by
  rw [upByM, Int.tdiv_eq_ediv_of_nonneg (by omega)]
  refine Int.lt_add_one_iff.1 (Int.ediv_lt_of_lt_mul (by omega) ?_)
  rw [Int.add_mul, Int.one_mul, Int.mul_comm]
  omega
theorem there_cons (r : ReqM) (x : Int) (t : List Int) : thereM r (x :: t) = if hereM r x = true then x :: thereM r t else thereM r t := by rw [thereM, List.filter_cons]; rfl
theorem there_sum {r : ReqM} {f : Int → Int} (h0 : ∀ u, hereM r u = false → f u = 0) : ∀ us : List Int, (us.map f).sum = ((thereM r us).map f).sum
  | [] => rfl
  | x :: t => by
    have ih := there_sum h0 t
    rw [List.map_cons, List.sum_cons, ih, there_cons]
    cases hx : hereM r x with
    | true => simp only [if_true, List.map_cons, List.sum_cons]
    | false => rw [h0 x hx]; simp only [Bool.false_eq_true, if_false]; rw [Int.zero_add]
theorem there_count {r : ReqM} {q : Int → Bool} (h0 : ∀ u, hereM r u = false → q u = false) : ∀ us : List Int, us.countP q = (thereM r us).countP q
  | [] => rfl
  | x :: t => by
    have ih := there_count h0 t
    rw [List.countP_cons, ih, there_cons]
    cases hx : hereM r x with
    | true => simp only [if_true, List.countP_cons]
    | false => rw [h0 x hx]; simp
theorem cnt_itemsL (r : ReqM) (p : ItemM → Bool) (q : Int → Bool) (h1 : ∀ u x, itemAt r u = some x → p x = q u) (h2 : ∀ u, itemAt r u = none → q u = false) : ∀ us : List Int, (itemsM r us).countP p = us.countP q
  | [] => rfl
  | x :: t => by
    have ih := cnt_itemsL r p q h1 h2 t
    rw [itemsM] at ih ⊢
    rw [List.filterMap_cons, List.countP_cons]
    cases hx : itemAt r x with
    | none => rw [h2 x hx]; simpa using ih
    | some y => dsimp only; rw [List.countP_cons, ih, h1 x y hx]
theorem out_none {r : ReqM} {u : Int} (h : hereM r u = false) : itemAt r u = none := item_out (by rw [List.length_map]; rw [hereM] at h; simp [h])
/-- What a measure says of a packing. -/
theorem bound_pack {r : ReqM} {us : List Int} {cs : List (List Int)} {f : Int → Int} {cap : Int} (hf : ∀ u, 0 ≤ f u) (hz : ∀ u, hereM r u = false → f u = 0) (hcap : 1 ≤ cap) (hp : cs.flatten.Perm (thereM r us)) (hcs : ∀ g ∈ cs, (g.map f).sum ≤ cap) :
    upByM ((us.map f).sum) cap ≤ cs.length ∧ us.countP (fun u => decide (2 * f u > cap)) ≤ cs.length := by
  constructor
  · refine upBy_le (sum_ge0 hf us) hcap ?_
    rw [there_sum hz us, ← perm_sumL (hp.map f)]
    exact flat_sum hcs
  · rw [there_count (r := r) (fun u hu => by rw [hz u hu]; simp; omega) us, ← hp.countP_eq]
    exact flat_count (fun g hg => one_wide hf (by omega) (hcs g hg))
theorem low_pack {r : ReqM} {us : List Int} {cs : List (List Int)} (h : packM r us cs = true) : lowM r us ≤ cs.length := by
  rw [packM] at h
  simp only [Bool.and_eq_true, decide_eq_true_eq] at h
  obtain ⟨hc, ho, hs⟩ := h
  have hp := sortM_eq.1 hs
  have hm := mst_ok hc
  have hmv := type_vol hm
  have hmg := type_in hm
  rw [okCs, List.all_eq_true] at ho
  have hh : ∀ g ∈ cs, volUS r g ≤ volM (mst r).w (mst r).h (mst r).d ∧ gramM r g ≤ (mst r).g := fun g hg => by
    have := ho g hg
    simp only [holdsM, Bool.and_eq_true, decide_eq_true_eq] at this
    exact this.2
  have hg0 : ∀ u, 0 ≤ gOf r u := fun u => by
    rw [gOf]
    cases hx : itemAt r u with
    | none => simp
    | some x =>
      have := itemAt_ok hx
      simp only [itemOkM, inB, Bool.and_eq_true, decide_eq_true_eq] at this
      dsimp only; omega
  obtain ⟨v1, v2⟩ := bound_pack (f := vOf r) (fun u => (vOf_in r u).1) (fun u hu => by rw [vOf, out_none hu]) hmv.1 hp (fun g hg => (hh g hg).1)
  obtain ⟨g1, g2⟩ := bound_pack (f := gOf r) hg0 (fun u hu => by rw [gOf, out_none hu]) hmg.2.2.1 hp (fun g hg => (hh g hg).2)
  have w1 := cnt_itemsL r (wideP r) (fun u => decide (2 * vOf r u > volM (mst r).w (mst r).h (mst r).d)) (fun u x hx => by rw [wideP, vOf, hx]) (fun u hx => by rw [vOf, hx]; simp; omega) us
  have w2 := cnt_itemsL r (heavyP r) (fun u => decide (2 * gOf r u > (mst r).g)) (fun u x hx => by rw [heavyP, gOf, hx]) (fun u hx => by rw [gOf, hx]; simp; omega) us
  rw [lowM, lowVolM, lowGramM, greatM, if_pos hc, if_pos hc, if_pos hc, w1, w2]
  rw [show volUS r us = (us.map (vOf r)).sum from rfl, show gramM r us = (us.map (gOf r)).sum from rfl]
  omega
end Go.Proofs.YtibkggjbkgdnkaaGreat

/-
  No packing has fewer cartons than the best.
-/
namespace Go.Proofs.YtibkggjbkgdnkaaGreat
section
variable {α β : Type} {p : α → β → Bool} {add : α → β → α} {one : β → α}
theorem stepB_le (f : List α → Nat) (u : β) (L : List α) (b i : Nat) : stepB p add f u L b i ≤ b := by
  unfold stepB
  split
  · split <;> omega
  · omega
theorem tried_in {t : List β} {u : β} {L : List α} {b i : Nat} {l : α} (hl : L[i]? = some l) (h : p l u = true) : ∀ n, i < n → triedB p add one t u L b n ≤ fewM p add one t (L.set i (add l u))
  | 0, hn => by omega
  | n + 1, hn => by
    rcases Nat.lt_or_ge i n with hi | hi
    · rw [tried_next]; exact Nat.le_trans (stepB_le _ _ _ _ _) (tried_in hl h n hi)
    · have e : n = i := by omega
      subst e
      rw [tried_yes hl h]; omega
theorem few_cons {t : List β} {u : β} {L : List α} : fewM p add one (u :: t) L = triedB p add one t u L (fewM p add one t (L ++ [one u])) L.length := rfl
theorem few_new {t : List β} {u : β} {L : List α} : fewM p add one (u :: t) L ≤ fewM p add one t (L ++ [one u]) := by rw [few_cons]; exact tried_le _
theorem few_in {t : List β} {u : β} {L : List α} {i : Nat} {l : α} (hl : L[i]? = some l) (h : p l u = true) : fewM p add one (u :: t) L ≤ fewM p add one t (L.set i (add l u)) := by
  rw [few_cons]; exact tried_in hl h _ (List.getElem?_eq_some_iff.1 hl).1
end
theorem holds_perm {r : ReqM} {a b : List Int} (h : a.Perm b) (hb : holdsM r b = true) : holdsM r a = true := by
  rw [holdsM] at hb ⊢
  rw [volUS, gramM] at hb ⊢
  rwa [perm_sumL (h.map (vOf r)), perm_sumL (h.map (gOf r))]
theorem holds_left {r : ReqM} {a b : List Int} (h : holdsM r (a ++ b) = true) : holdsM r a = true := by
  rw [holdsM, Bool.and_eq_true, decide_eq_true_eq, decide_eq_true_eq] at h ⊢
  simp only [volUS, gramM, List.map_append, List.sum_append] at h ⊢
  have h1 := sum_ge0 (f := vOf r) (fun u => (vOf_in r u).1) b
  have h2 := sum_ge0 (f := gOf r) (fun u => (gOf_in r u).1) b
  obtain ⟨h3, h4⟩ := h
  exact ⟨by omega, by omega⟩
/-- L are the lists so far, A lies beside them, B are the lists to come. -/
theorem few_le_pack {r : ReqM} (hc : classM r = 0) : ∀ (t : List Int) (L A B : List (List Int)), A.length = L.length → (∀ (i : Nat) l a, L[i]? = some l → A[i]? = some a → holdsM r (l ++ a) = true) → (∀ b ∈ B, holdsM r b = true) → (A.flatten ++ B.flatten).Perm t → fewU r t L ≤ L.length + B.length
  | [], L, A, B, _, _, _, _ => by rw [fewU, fewM]; omega
  | u :: t, L, A, B, hl, hA, hB, hp => by
    have hu : u ∈ A.flatten ++ B.flatten := hp.mem_iff.2 List.mem_cons_self
    rcases List.mem_append.1 hu with hu | hu
    · obtain ⟨a, ha, hua⟩ := List.mem_flatten.1 hu
      obtain ⟨i, hi, rfl⟩ := List.getElem_of_mem ha
      have hli : i < L.length := by omega
      have h1 : L[i]? = some L[i] := List.getElem?_eq_getElem hli
      have h2 : A[i]? = some A[i] := List.getElem?_eq_getElem hi
      have hh := hA i _ _ h1 h2
      have pe : A[i].Perm (u :: A[i].erase u) := List.perm_cons_erase hua
      have hq : holdsM r ((L[i] ++ [u]) ++ A[i].erase u) = true := holds_perm (by rw [List.append_assoc]; exact (List.Perm.append_left _ pe.symm)) hh
      have hr : roomM r L[i] u = true := by rw [room_yes hc]; exact holds_left hq
      refine Nat.le_trans (few_in (p := roomM r) h1 hr) ?_
      have := few_le_pack hc t (L.set i (L[i] ++ [u])) (A.set i (A[i].erase u)) B (by simp [hl]) (fun k l a hk ka => by
        by_cases hki : i = k
        · subst hki
          rw [List.getElem?_set_self hli] at hk
          rw [List.getElem?_set_self hi] at ka
          cases hk; cases ka; exact hq
        · rw [List.getElem?_set_ne hki] at hk ka
          exact hA k l a hk ka) hB (by
        have e := (List.take_append_drop i A)
        have ed : A.drop i = A[i] :: A.drop (i + 1) := List.drop_eq_getElem_cons hi
        have es : A.set i (A[i].erase u) = A.take i ++ A[i].erase u :: A.drop (i + 1) := List.set_eq_take_append_cons_drop.trans (by rw [if_pos hi])
        have e2 : A.flatten = (A.take i).flatten ++ (A[i] ++ (A.drop (i + 1)).flatten) := by
          have e3 := congrArg List.flatten e
          rw [ed, List.flatten_append, List.flatten_cons] at e3
          exact e3.symm
        rw [es]
        rw [e2] at hp
        simp only [List.flatten_append, List.flatten_cons, List.append_assoc] at hp ⊢
        refine List.Perm.cons_inv (a := u) (List.Perm.trans ?_ hp); refine (List.perm_middle (a := u)).symm.trans ?_; refine List.Perm.append_left _ ?_
        rw [← List.cons_append]
        exact List.Perm.append_right _ pe.symm)
      rw [List.length_set] at this
      exact this
    · obtain ⟨b, hb, hub⟩ := List.mem_flatten.1 hu
      obtain ⟨B1, B2, rfl⟩ := List.append_of_mem hb
      have pe : b.Perm (u :: b.erase u) := List.perm_cons_erase hub
      refine Nat.le_trans few_new ?_
      have := few_le_pack hc t (L ++ [[u]]) (A ++ [b.erase u]) (B1 ++ B2) (by simp [hl]) (fun k l a hk ka => by
        rcases Nat.lt_or_ge k L.length with hkl | hkl
        · rw [List.getElem?_append_left hkl] at hk
          rw [List.getElem?_append_left (by omega)] at ka
          exact hA k l a hk ka
        · rw [List.getElem?_append_right hkl] at hk
          rw [List.getElem?_append_right (by omega), hl] at ka
          have hk0 : k - L.length = 0 := by
            have := (List.getElem?_eq_some_iff.1 hk).1
            simp at this; omega
          rw [hk0] at hk ka
          cases hk; cases ka
          exact holds_perm pe.symm (hB b (by simp))) (fun c hcB => hB c (by
            rcases List.mem_append.1 hcB with h | h
            · exact List.mem_append_left _ h
            · exact List.mem_append_right _ (List.mem_cons_of_mem _ h))) (by
        simp only [List.flatten_append, List.flatten_cons, List.flatten_nil, List.append_nil, List.append_assoc] at hp ⊢
        refine List.Perm.cons_inv (a := u) (List.Perm.trans ?_ hp); refine (List.perm_middle (a := u)).symm.trans ?_; refine List.Perm.append_left _ ?_
        rw [← List.cons_append]
        refine (List.Perm.append_right _ pe.symm).trans ?_
        rw [← List.append_assoc, ← List.append_assoc]
        exact List.Perm.append_right _ List.perm_append_comm)
      simp only [List.length_append, List.length_cons, List.length_nil] at this ⊢
      rw [fewU] at this
      omega
/-- No packing has fewer. -/
theorem best_le {r : ReqM} {us : List Int} {cs : List (List Int)} (h : packM r us cs = true) : fewU r (thereM r us) [] ≤ cs.length := by
  rw [packM] at h
  simp only [Bool.and_eq_true, decide_eq_true_eq] at h
  obtain ⟨hc, ho, hs⟩ := h
  rw [okCs, List.all_eq_true] at ho
  have := few_le_pack hc (thereM r us) [] [] cs rfl (fun i l a hl _ => by simp at hl) (fun b hb => by have := ho b hb; rw [Bool.and_eq_true] at this; exact this.2) (by simpa using sortM_eq.1 hs)
  simpa using this
end Go.Proofs.YtibkggjbkgdnkaaGreat
