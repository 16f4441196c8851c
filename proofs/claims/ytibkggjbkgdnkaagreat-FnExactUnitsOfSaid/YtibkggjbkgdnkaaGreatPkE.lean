/-
  Texts of this proof, one behind the other: Kinds2, Kinds3, PresP, Pres, Grp2, Grp3, MarkSS, PutM, Push, Low1, Low2, Grp4, Grp5, Grp6, Grp7.
-/
import Derived.Test.YtibkggjbkgdnkaaGreatPkD
import Derived.Test.YtibkggjbkgdnkaaGreatPkB
import Derived.Test.YtibkggjbkgdnkaaGreatPkA

/-
  Equal neighbours that are dropped.
-/
namespace Go.Proofs.YtibkggjbkgdnkaaGreat
open Go.RowKit
attribute [local irreducible] Go.wpList Go.Code.wp Go.Exit.then Go.Exit.inBlock Go.bodyPost Go.Calls pE pB G RunsV FnV Fn FnM
set_option maxRecDepth 100000
set_option maxHeartbeats 4000000
def ddStep (acc : List Int) (x : Int) : List Int := if acc.getLast? = some x then acc else acc ++ [x]
def ddM (l : List Int) : List Int := l.foldl ddStep []
theorem dd_next {l : List Int} {k : Nat} {b : Int} (hb : l[k]? = some b) : ddM (l.take (k + 1)) = ddStep (ddM (l.take k)) b := foldl_take_succ hb ddStep []
theorem ddStep_last (acc : List Int) (x : Int) : (ddStep acc x).getLast? = some x := by
  unfold ddStep; split
  · assumption
  · simp
theorem dd_last {l : List Int} {k : Nat} {a : Int} (ha : l[k]? = some a) : (ddM (l.take (k + 1))).getLast? = some a := by rw [dd_next ha, ddStep_last]
theorem dd_len (l : List Int) : ∀ k, k ≤ l.length → (ddM (l.take k)).length ≤ k
  | 0, _ => by simp [ddM]
  | k + 1, hk => by
    obtain ⟨b, hb⟩ := get_of_lt (l := l) (k := k) (by omega)
    have := dd_len l k (by omega)
    rw [dd_next hb, ddStep]; split
    · omega
    · simp; omega
theorem dd_same {l : List Int} {k : Nat} {a b : Int} (ha : l[k]? = some a) (hb : l[k + 1]? = some b) (h : b = a) : ddM (l.take (k + 1 + 1)) = ddM (l.take (k + 1)) := by
  rw [dd_next hb, ddStep, if_pos (by rw [dd_last ha, h])]
theorem dd_diff {l : List Int} {k : Nat} {a b : Int} (ha : l[k]? = some a) (hb : l[k + 1]? = some b) (h : ¬ b = a) : ddM (l.take (k + 1 + 1)) = ddM (l.take (k + 1)) ++ [b] := by
  rw [dd_next hb, ddStep, if_neg (by rw [dd_last ha]; intro e; exact h (Option.some.inj e).symm)]
/-- The row while it is pressed together. -/
def ddRow (l : List Int) (m : Nat) : List Int := ddM (l.take m) ++ l.drop (ddM (l.take m)).length
theorem ddRow_len {l : List Int} {m : Nat} (h : m ≤ l.length) : (ddRow l m).length = l.length := by
  have := dd_len l m h
  rw [ddRow, List.length_append, List.length_drop]; omega
theorem ddRow_get {l : List Int} {m j : Nat} (h : (ddM (l.take m)).length ≤ j) : (ddRow l m)[j]? = l[j]? := by
  rw [ddRow, List.getElem?_append_right h, List.getElem?_drop]; congr 1; omega
theorem ddRow_set {l : List Int} {k : Nat} {a b : Int} (ha : l[k]? = some a) (hb : l[k + 1]? = some b) (h : ¬ b = a) : (ddRow l (k + 1)).set (ddM (l.take (k + 1))).length b = ddRow l (k + 1 + 1) := by
  have hk := (List.getElem?_eq_some_iff.1 hb).1
  have hl := dd_len l (k + 1) (by omega)
  rw [ddRow, ddRow, dd_diff ha hb h, List.set_append_right _ _ (Nat.le_refl _), Nat.sub_self, List.length_append, List.append_assoc]
  congr 1
  rw [List.drop_eq_getElem_cons (show (ddM (l.take (k + 1))).length < l.length by omega), List.set_cons_zero]
  rfl
theorem dd_one {l : List Int} {b : Int} (hb : l[0]? = some b) : ddM (l.take 1) = l.take 1 := by
  rw [dd_next hb]
  cases l with
  | nil => cases hb
  | cons x r => obtain rfl : x = b := by simpa using hb
                simp [ddM, ddStep]
theorem dd_short {l : List Int} (h : l.length < 2) : ddM l = l := by
  match l, h with
  | [], _ => rfl
  | [x], _ => simp [ddM, ddStep]
theorem dd_go {l : List Int} {j : Nat} {a b : Int} (hd : ddM (l.take (j + 1)) = l.take (j + 1)) (ha : l[j]? = some a) (hb : l[j + 1]? = some b) (h : ¬ b = a) : ddM (l.take (j + 1 + 1)) = l.take (j + 1 + 1) := by
  rw [dd_diff ha hb h, hd, List.take_add_one (i := j + 1), hb]; rfl
theorem s2_rd {w : World} {v : Value} {l : List Int} {m p : Nat} (h : Rd w v 1 ((ddRow l m).map icell)) (hm : m ≤ l.length) (hp : p ≤ l.length) : Rd w (subV v 1 p (l.map icell).length) 1 (((ddRow l m).drop p).map icell) := by
  have := Rd.subL h (k := p) (by rw [ddRow_len hm]; exact hp)
  rwa [List.length_map, ddRow_len hm, ← List.length_map (f := icell)] at this
theorem s2_get {l : List Int} {m p i : Nat} {b : Int} (h : (ddM (l.take m)).length ≤ p + i) (hb : l[p + i]? = some b) : (((ddRow l m).drop p).map icell)[i]? = some (icell b) := by
  rw [List.getElem?_map, List.getElem?_drop, ddRow_get h, hb]; rfl
theorem dd_cut {l : List Int} {m q : Nat} {z : List Value} : ((((ddRow l m).map icell).take (ddM (l.take m)).length) ++ List.replicate q z).take (ddM (l.take m)).length = (ddM (l.take m)).map icell := by
  have e : ((ddRow l m).map icell).take (ddM (l.take m)).length = (ddM (l.take m)).map icell := by
    rw [← List.map_take, ddRow, List.take_left']; rfl
  rw [e, List.take_left']; simp
section
variable {w0 : World} {F : List Ch} {v : Value}
theorem compact_any {l : List Int} (hn : l.length ≤ 1048576) :
    FnMF Tryz.prog 201 [v] w0 [.row v 3 1 (l.map icell)] F (fun x : Value => x.oneCell' = true) (fun x => x) (fun x => [.row x 3 1 ((ddM l).map icell)]) := by
  have hln : (l.map icell).length = l.length := by simp
  refine FnMF.of (n := 61) Tryz.func201 rfl rfl ?_
  refine G.know (fun w hw => (Rd.owned 0 rfl w hw).one_) (fun hone => ?_)
  refine G.seq ?_
  refine G.region ?_
  refine G.v (rv_assign rfl) rfl ?_
  refine G.done ?_
  refine G.thenN ?_
  refine G.seq ?_
  refine G.seq ?_
  refine G.region ?_
  refine G.v (rv_move rfl) rfl ?_
  refine G.v (rv_len rfl (by exact Rd.owned 0 rfl)) rfl ?_
  refine G.v (rv_lss rfl rfl) rfl ?_
  refine G.done ?_
  refine G.thenN ?_
  refine G.cond rfl (fun hc => ?_) (fun hc => ?_)
  · try exact Bool.noConfusion hc
    all_goals
     try replace hc := of_decide_eq_true hc
     try simp only [List.length_map] at hc
     try (exfalso; contradiction)
     all_goals
      refine G.seq ?_
      refine G.region ?_
      refine G.v (rv_move rfl) rfl ?_
      refine G.v (rv_assign rfl) rfl ?_
      refine G.done ?_
      refine G.thenN ?_
      refine G.ret ?_
      refine G.thenR ?_
      (exact G.retF v hone rfl rfl rfl (fun w hw => by rw [dd_short (by omega)]; exact hw))
  · try exact Bool.noConfusion hc
    all_goals
     try replace hc := of_decide_eq_false hc
     try simp only [List.length_map] at hc
     try (exfalso; contradiction)
     all_goals
      refine G.skip ?_
      refine G.thenN ?_
      refine G.seq ?_
      refine G.seq ?_
      refine G.region ?_
      refine G.v (rv_assign rfl) rfl ?_
      refine G.done ?_
      refine G.thenN ?_
      refine G.block ?_
      -- loop 0: turned [3], kept [0]
      obtain ⟨b0, hb0⟩ := get_of_lt (l := l) (k := 0) (by omega)
      refine G.loopK (ι := Nat) (ks := [0]) (fun j => [(3, .int .i64 ((j + 1 : Nat) : Int))]) (fun _ => [.row v 3 1 (l.map icell)]) (fun j => j + 1 ≤ l.length ∧ ddM (l.take (j + 1)) = l.take (j + 1)) (fun j => l.length - j) 0 (.cons rfl (.nil)) rfl ?_ ?_ ?_
      · exact ⟨by omega, dd_one hb0⟩
      · exact ⟨rfl, trivial⟩
      rintro j ⟨hj, hd⟩
      by_cases hlt : j + 1 < l.length
      case' pos => (obtain ⟨a, ha⟩ := get_of_lt (l := l) (k := j) (by omega); obtain ⟨b, hb⟩ := get_of_lt hlt; have e1 := get_map hb icell; have e2 : (l.map icell)[j + 1 - 1]? = some (icell a) := get_map ha icell)
      all_goals
       refine G.seq ?_
       refine G.seq ?_
       refine G.region ?_
       refine G.v (rv_move rfl) rfl ?_
       refine G.v (rv_move rfl) rfl ?_
       refine G.v (rv_len rfl (by exact Rd.owned 0 rfl)) rfl ?_
       refine G.v (rv_lss rfl rfl) rfl ?_
       refine G.done ?_
       refine G.thenN ?_
       refine G.cond rfl (fun hc => ?_) (fun hc => ?_)
       · try exact Bool.noConfusion hc
         all_goals
          try replace hc := of_decide_eq_true hc
          try simp only [List.length_map] at hc
          try (exfalso; omega)
          all_goals
           refine G.skip ?_
           refine G.thenN ?_
           refine G.seq ?_
           refine G.block ?_
           refine G.seq ?_
           refine G.drawL [] ?_
           refine GE.q 0 rfl (by as_aux_lemma => kernel_rfl) rfl (qg_runs (rv_move rfl)) rfl ?_
           refine GE.q 1 rfl (by as_aux_lemma => kernel_rfl) rfl (qg_runs (rv_move rfl)) rfl ?_
           (refine GE.q 2 rfl (by as_aux_lemma => kernel_rfl) rfl (qg_runs (rv_indexH rfl rfl (by exact Rd.owned 0 rfl) rfl (by exact e1))) rfl ?_)
           refine GE.q 3 rfl (by as_aux_lemma => kernel_rfl) rfl (qg_runs (rv_loadE rfl (by exact Rd.owned 0 rfl) (by exact e1) rfl)) rfl ?_
           refine GE.q 4 rfl (by as_aux_lemma => kernel_rfl) rfl (qg_runs (rv_move rfl)) rfl ?_
           refine GE.ol 5 (by as_aux_lemma => kernel_rfl) rfl rfl (og_runs (rv_move rfl)) rfl (fun _ _ h => by exact h) (fun _ _ => ?_)
           (refine GE.ol 6 (by as_aux_lemma => kernel_rfl) rfl rfl (og_runs (rv_decr rfl rfl (by omega) (by omega))) rfl (fun _ _ h => by exact h) (fun _ _ => ?_))
           (refine GE.ol 7 (by as_aux_lemma => kernel_rfl) rfl rfl (og_runs (rv_indexH rfl rfl (by exact Rd.owned 0 rfl) rfl (by exact e2))) rfl (fun _ _ h => by exact h) (fun _ _ => ?_))
           refine GE.ol 8 (by as_aux_lemma => kernel_rfl) rfl rfl (og_runs (rv_loadE rfl (by exact Rd.owned 0 rfl) (by exact e2) rfl)) rfl (fun _ _ h => by exact h) (fun _ _ => ?_)
           refine GE.ol 9 (by as_aux_lemma => kernel_rfl) rfl rfl (og_runs (rv_eql rfl rfl)) rfl (fun _ _ h => by exact h) (fun _ _ => ?_)
           refine GE.done (by as_aux_lemma => kernel_rfl) ?_
           refine G.thenN ?_
           refine G.cond rfl (fun hc => ?_) (fun hc => ?_)
           · try exact Bool.noConfusion hc
             all_goals
              try replace hc := of_decide_eq_true hc
              try simp only [List.length_map] at hc
              try (exfalso; contradiction)
              all_goals
               refine G.seq ?_
               refine G.region ?_
               refine G.v (rv_move rfl) rfl ?_
               refine G.v (rv_move rfl) rfl ?_
               refine G.v (rv_sliceL rfl rfl (by exact Rd.owned 0 rfl) (by omega)) rfl ?_
               refine G.v (rv_assign rfl) rfl ?_
               refine G.done ?_
               refine G.thenN ?_
               refine G.seq ?_
               refine G.seq ?_
               refine G.region ?_
               refine G.v (rv_assign rfl) rfl ?_
               refine G.done ?_
               refine G.thenN ?_
               refine G.block ?_
               -- loop 1: turned [3, 5], kept [0, 4]
               have hD0 : ddM (l.take (j + 1 + 1)) = l.take (j + 1) := (dd_same ha hb hc).trans hd
               have hDl : (ddM (l.take (j + 1 + 1))).length = j + 1 := by rw [hD0, List.length_take]; omega
               refine G.rowEq ((ddRow l (j + 0 + 1 + 1)).map icell) (by rw [ddRow, show j + 0 + 1 + 1 = j + 1 + 1 from rfl, hDl, hD0, List.take_append_drop]) rfl ?_
               refine G.loopK (ι := Nat) (ks := [0, 4]) (fun i => [(3, .int .i64 ((ddM (l.take (j + i + 1 + 1))).length : Int)), (5, .int .i64 ((i + 1 : Nat) : Int))]) (fun i => [.row v 3 1 ((ddRow l (j + i + 1 + 1)).map icell)]) (fun i => j + i + 1 + 1 ≤ l.length ∧ (ddM (l.take (j + i + 1 + 1))).length + 1 ≤ j + i + 1 + 1) (fun i => l.length - i) 0 (.cons rfl (.cons rfl (.nil))) rfl ?_ ?_ ?_
               · exact ⟨hlt, by rw [show j + 0 + 1 + 1 = j + 1 + 1 from rfl, hDl]; omega⟩
               · exact ⟨congrArg (fun z : Nat => some (Value.int .i64 (z : Int))) hDl.symm, rfl, trivial⟩
               rintro i ⟨hi, hDi⟩
               have hrl := ddRow_len hi
               have hrl2 : ((ddRow l (j + i + 1 + 1)).map icell).length = l.length := by rw [List.length_map, hrl]
               have hsl : (((ddRow l (j + i + 1 + 1)).drop (j + 1)).map icell).length = l.length - (j + 1) := by rw [List.length_map, List.length_drop, hrl]
               have hsl3 : ((ddRow l (j + i + 1 + 1)).drop (j + 1)).length = l.length - (j + 1) := by rw [List.length_drop, hrl]
               by_cases hlt2 : j + i + 1 + 1 < l.length
               case' pos => (obtain ⟨a2, ha2⟩ := get_of_lt (l := l) (k := j + i + 1) (by omega); obtain ⟨b2, hb2⟩ := get_of_lt hlt2; replace e1 : (((ddRow l (j + i + 1 + 1)).drop (j + 1)).map icell)[i + 1]? = some (icell b2) := s2_get (by omega) (by rw [show j + 1 + (i + 1) = j + i + 1 + 1 by omega]; exact hb2); replace e2 : (((ddRow l (j + i + 1 + 1)).drop (j + 1)).map icell)[i + 1 - 1]? = some (icell a2) := s2_get (by omega) (by rw [show j + 1 + (i + 1 - 1) = j + i + 1 by omega]; exact ha2); obtain ⟨c3, hc3⟩ := get_of_lt (l := ddRow l (j + i + 1 + 1)) (k := (ddM (l.take (j + i + 1 + 1))).length) (by omega); have e3 := get_map hc3 icell)
               all_goals
                refine G.seq ?_
                refine G.seq ?_
                refine G.region ?_
                refine G.v (rv_move rfl) rfl ?_
                refine G.v (rv_move rfl) rfl ?_
                refine G.v (rv_len rfl (by exact (fun w hw => s2_rd (Rd.owned 0 rfl w hw) (by omega) (by omega)))) rfl ?_
                refine G.v (rv_lss rfl rfl) rfl ?_
                refine G.done ?_
                refine G.thenN ?_
                refine G.cond rfl (fun hc => ?_) (fun hc => ?_)
                · try exact Bool.noConfusion hc
                  all_goals
                   try replace hc := of_decide_eq_true hc
                   try simp only [List.length_map] at hc
                   try (exfalso; omega)
                   all_goals
                    refine G.skip ?_
                    refine G.thenN ?_
                    refine G.seq ?_
                    refine G.block ?_
                    refine G.seq ?_
                    refine G.drawL [] ?_
                    refine GE.q 0 rfl (by as_aux_lemma => kernel_rfl) rfl (qg_runs (rv_move rfl)) rfl ?_
                    refine GE.q 1 rfl (by as_aux_lemma => kernel_rfl) rfl (qg_runs (rv_move rfl)) rfl ?_
                    (refine GE.q 2 rfl (by as_aux_lemma => kernel_rfl) rfl (qg_runs (rv_indexH rfl rfl (by exact (fun w hw => s2_rd (Rd.owned 0 rfl w hw) (by omega) (by omega))) rfl (by exact e1))) rfl ?_)
                    refine GE.q 3 rfl (by as_aux_lemma => kernel_rfl) rfl (qg_runs (rv_loadE rfl (by exact (fun w hw => s2_rd (Rd.owned 0 rfl w hw) (by omega) (by omega))) (by exact e1) rfl)) rfl ?_
                    refine GE.q 4 rfl (by as_aux_lemma => kernel_rfl) rfl (qg_runs (rv_move rfl)) rfl ?_
                    refine GE.ol 5 (by as_aux_lemma => kernel_rfl) rfl rfl (og_runs (rv_move rfl)) rfl (fun _ _ h => by exact h) (fun _ _ => ?_)
                    (refine GE.ol 6 (by as_aux_lemma => kernel_rfl) rfl rfl (og_runs (rv_decr rfl rfl (by omega) (by omega))) rfl (fun _ _ h => by exact h) (fun _ _ => ?_))
                    (refine GE.ol 7 (by as_aux_lemma => kernel_rfl) rfl rfl (og_runs (rv_indexH rfl rfl (by exact (fun w hw => s2_rd (Rd.owned 0 rfl w hw) (by omega) (by omega))) rfl (by exact e2))) rfl (fun _ _ h => by exact h) (fun _ _ => ?_))
                    refine GE.ol 8 (by as_aux_lemma => kernel_rfl) rfl rfl (og_runs (rv_loadE rfl (by exact (fun w hw => s2_rd (Rd.owned 0 rfl w hw) (by omega) (by omega))) (by exact e2) rfl)) rfl (fun _ _ h => by exact h) (fun _ _ => ?_)
                    refine GE.ol 9 (by as_aux_lemma => kernel_rfl) rfl rfl (og_runs (rv_neq rfl rfl)) rfl (fun _ _ h => by exact h) (fun _ _ => ?_)
                    refine GE.done (by as_aux_lemma => kernel_rfl) ?_
                    refine G.thenN ?_
                    refine G.cond rfl (fun hc => ?_) (fun hc => ?_)
                    · try exact Bool.noConfusion hc
                      all_goals
                       try replace hc := of_decide_eq_true hc
                       try simp only [List.length_map] at hc
                       try (exfalso; contradiction)
                       all_goals
                        refine G.seq ?_
                        refine G.region ?_
                        refine G.v (rv_move rfl) rfl ?_
                        refine G.v (rv_move rfl) rfl ?_
                        refine G.v (rv_move rfl) rfl ?_
                        refine G.v (rv_move rfl) rfl ?_
                        (refine G.v (rv_indexH rfl rfl (by exact (fun w hw => s2_rd (Rd.owned 0 rfl w hw) (by omega) (by omega))) rfl (by exact e1)) rfl ?_)
                        refine G.v (rv_loadE rfl (by exact (fun w hw => s2_rd (Rd.owned 0 rfl w hw) (by omega) (by omega))) (by exact e1) rfl) rfl ?_
                        (refine G.v (rv_indexH rfl rfl (by exact Rd.owned 0 rfl) rfl (by exact e3)) rfl ?_)
                        (refine G.op0 (og_stE0 rfl rfl rfl (by exact e3) rfl rfl rfl rfl (.zero (.cons .nil))) (fun _ _ => ?_))
                        refine G.done ?_
                        refine G.thenN ?_
                        refine G.region ?_
                        refine G.v (rv_move rfl) rfl ?_
                        (refine G.v (rv_incr rfl rfl (by omega)) rfl ?_)
                        refine G.v (rv_assign rfl) rfl ?_
                        refine G.done ?_
                        refine G.inN ?_
                        refine G.thenN ?_
                        refine G.region ?_
                        refine G.v (rv_move rfl) rfl ?_
                        (refine G.v (rv_incr rfl rfl (by omega)) rfl ?_)
                        refine G.v (rv_assign rfl) rfl ?_
                        refine G.done ?_
                        refine G.backK (i + 1) 0 (by exact one_eq (congrArg (fun z => Ch.row v 3 1 z) ((List.map_set (f := icell)).symm.trans (congrArg (List.map icell) (ddRow_set ha2 hb2 hc))))) (.cons rfl (.cons rfl (.nil))) ?_ ?_ ?_
                        · (exact ⟨congrArg (fun z : Nat => some (Value.int .i64 (z : Int))) (by rw [show j + (i + 1) + 1 + 1 = j + i + 1 + 1 + 1 from rfl, dd_diff ha2 hb2 hc, List.length_append]; rfl), rfl, trivial⟩)
                        · refine ⟨by omega, ?_⟩; (rw [show j + (i + 1) + 1 + 1 = j + i + 1 + 1 + 1 from rfl, dd_diff ha2 hb2 hc, List.length_append]; simp; omega)
                        · omega
                    · try exact Bool.noConfusion hc
                      all_goals
                       try replace hc := of_decide_eq_false hc
                       try simp only [List.length_map] at hc
                       try (exfalso; contradiction)
                       all_goals
                        refine G.skip ?_
                        refine G.inN ?_
                        refine G.thenN ?_
                        refine G.region ?_
                        refine G.v (rv_move rfl) rfl ?_
                        (refine G.v (rv_incr rfl rfl (by omega)) rfl ?_)
                        refine G.v (rv_assign rfl) rfl ?_
                        refine G.done ?_
                        (refine G.backK (i + 1) 0 (by (exact one_eq (congrArg (fun z : List Int => Ch.row v 3 1 (z.map icell)) (show ddRow l (j + i + 1 + 1) = ddRow l (j + i + 1 + 1 + 1) by simp only [ddRow]; rw [dd_same ha2 hb2 (by omega)])))) (.cons rfl (.cons rfl (.nil))) ?_ ?_ ?_)
                        · exact ⟨congrArg (fun z : Nat => some (Value.int .i64 (z : Int))) (by rw [show j + (i + 1) + 1 + 1 = j + i + 1 + 1 + 1 from rfl, dd_same ha2 hb2 (by omega)]), rfl, trivial⟩
                        · refine ⟨by omega, ?_⟩; (rw [show j + (i + 1) + 1 + 1 = j + i + 1 + 1 + 1 from rfl, dd_same ha2 hb2 (by omega)]; omega)
                        · omega
                · try exact Bool.noConfusion hc
                  all_goals
                   try replace hc := of_decide_eq_false hc
                   try simp only [List.length_map] at hc
                   try (exfalso; omega)
                   all_goals
                    refine G.exit ?_
                    refine G.thenX ?_
                    refine G.thenX ?_
                    refine G.inX ?_
                    refine G.thenN ?_
                    refine G.seq ?_
                    refine G.region ?_
                    refine G.v (rv_move rfl) rfl ?_
                    refine G.v (rv_move rfl) rfl ?_
                    refine G.v (rv_sliceL rfl rfl (by exact Rd.owned 0 rfl) (by omega)) rfl ?_
                    refine G.op0 (og_clear0 ((ddM (l.take (j + i + 1 + 1))).length) rfl rfl rfl (by omega) rfl) (fun _ _ => ?_)
                    refine G.done ?_
                    refine G.thenN ?_
                    refine G.seq ?_
                    refine G.region ?_
                    refine G.v (rv_move rfl) rfl ?_
                    refine G.v (rv_move rfl) rfl ?_
                    refine G.v (rv_sliceH rfl rfl (Rd.owned 0 rfl) (by simp; omega)) rfl ?_
                    refine G.v (rv_assign rfl) rfl ?_
                    refine G.done ?_
                    refine G.thenN ?_
                    refine G.ret ?_
                    refine G.inR ?_
                    refine G.thenR ?_
                    refine G.thenR ?_
                    refine G.inR ?_
                    refine G.thenR ?_
                    (refine G.cutRow (ddM (l.take (j + i + 1 + 1))).length (by simp; omega) rfl ?_; refine G.know (fun w hw => (Rd.owned 0 rfl w hw).one_) (fun hone2 => ?_); exact G.retF _ hone2 rfl rfl rfl (fun w hw => by rw [dd_cut] at hw; rw [← (show ddM (l.take (j + i + 1 + 1)) = ddM l by rw [take_all (l := l) (k := j + i + 1 + 1) (by omega)])]; exact hw))
           · try exact Bool.noConfusion hc
             all_goals
              try replace hc := of_decide_eq_false hc
              try simp only [List.length_map] at hc
              try (exfalso; contradiction)
              all_goals
               refine G.skip ?_
               refine G.inN ?_
               refine G.thenN ?_
               refine G.region ?_
               refine G.v (rv_move rfl) rfl ?_
               (refine G.v (rv_incr rfl rfl (by omega)) rfl ?_)
               refine G.v (rv_assign rfl) rfl ?_
               refine G.done ?_
               refine G.backK (j + 1) 0 rfl (.cons rfl (.nil)) ?_ ?_ ?_
               · exact ⟨rfl, trivial⟩
               · exact ⟨by omega, dd_go hd ha hb hc⟩
               · omega
       · try exact Bool.noConfusion hc
         all_goals
          try replace hc := of_decide_eq_false hc
          try simp only [List.length_map] at hc
          try (exfalso; omega)
          all_goals
           refine G.exit ?_
           refine G.thenX ?_
           refine G.thenX ?_
           refine G.inX ?_
           refine G.thenN ?_
           refine G.seq ?_
           refine G.region ?_
           refine G.v (rv_move rfl) rfl ?_
           refine G.v (rv_assign rfl) rfl ?_
           refine G.done ?_
           refine G.thenN ?_
           refine G.ret ?_
           (have he : ddM l = l := (by rw [List.take_of_length_le (by omega)] at hd; exact hd); exact G.retF v hone rfl rfl rfl (fun w hw => by rw [he]; exact hw))
end
end Go.Proofs.YtibkggjbkgdnkaaGreat

/-
  Slices that are nil; a list's kinds.
-/
namespace Go.Proofs.YtibkggjbkgdnkaaGreat
open Go.RowKit
section
variable {P : Program} {n : Nat} {w0 : World} {fr : Fr} {H : List Ch}
theorem run_eqNilD {t e : TypeId} (hT : P.underlying t = some (.slice e)) (d : Nat) (b : Option Addr) (m c m2 c2 : Nat) (w : World) : (Op.equalIn (d + 1) t (.slice b m c) (.slice none m2 c2)).run P w = .ok b.isNone w := by
  cases b <;> simp [Op.equalIn, run_underlying hT]
theorem run_eqNil {t e : TypeId} (hT : P.underlying t = some (.slice e)) (b : Option Addr) (m c m2 c2 : Nat) (w : World) : (Op.equal t (.slice b m c) (.slice none m2 c2)).run P w = .ok b.isNone w := by
  exact run_eqNilD hT 9999 b m c m2 c2 w
theorem rv_eqNil {x y : Operand} {t t' e : TypeId} [hT : TySlice P t e] {b : Option Addr} {m c m2 c2 : Nat} (hx : opv fr x = some (.slice b m c)) (hy : opv fr y = some (.slice none m2 c2)) : RunsV P n w0 fr H (.binOp .eql t x y t') (.bool b.isNone) := fun a w hr _ _ _ _ _ _ => by
  have h := run_eqNil hT.h b m c m2 c2 w
  simp only [execOp, hr.opv hx, hr.opv hy, Sem.run_bind, eqGuard_at_slice, Sem.run_pure, Result.andThen_ok]
  have e : binOp .eql t (.slice b m c) (.slice none m2 c2) = (do pure (.bool (← Op.equal t (.slice b m c) (.slice none m2 c2)))) := rfl
  rw [e]
  simp only [Sem.run_bind, h, Result.andThen_ok, Sem.run_pure]
end
attribute [local irreducible] Go.wpList Go.Code.wp Go.Exit.then Go.Exit.inBlock Go.bodyPost Go.Calls pE pB G RunsV FnV Fn FnM
set_option maxRecDepth 100000
set_option maxHeartbeats 4000000
theorem clone_any {v : Value} {l : List Int} (w : World) (h : Rd w v 1 (l.map icell)) (hn : l.length ≤ 1048576) : Fn Tryz.prog 124 [v] w (fun v : Value => v.oneCell' = true) (fun v => v) (fun v => [.row v 3 1 (l.map icell)]) := by
  have hln : (l.map icell).length = l.length := by simp
  obtain ⟨ad, cap, e, h1, h2, h3⟩ := h.form
  refine Fn.of (n := 8) Tryz.func124 rfl rfl ?_
  refine G.seq ?_
  refine G.region ?_
  refine G.v (rv_assign rfl) rfl ?_
  refine G.done ?_
  refine G.thenN ?_
  refine G.seq ?_
  refine G.seq ?_
  refine G.region ?_
  refine G.v (rv_move rfl) rfl ?_
  refine G.v (rv_eqNil (by rw [e]; rfl) rfl) rfl ?_
  refine G.done ?_
  refine G.thenN ?_
  refine G.cond rfl (fun hc => ?_) (fun hc => ?_)
  · try exact Bool.noConfusion hc
    all_goals
     try replace hc := of_decide_eq_true hc
     try (exfalso; contradiction)
     all_goals
      have hl0 : l = [] := by (cases ad with | none => (rcases Nat.eq_zero_or_pos (l.map icell).length with hz | hz; (exact List.eq_nil_of_length_eq_zero (by omega)); (obtain ⟨b, o, hbo⟩ := h3 hz; cases hbo)) | some a => cases hc)
      all_goals
       refine G.seq ?_
       refine G.region ?_
       refine G.v (rv_assign rfl) rfl ?_
       refine G.done ?_
       refine G.thenN ?_
       refine G.ret ?_
       refine G.thenR ?_
       (exact G.retF (.slice none 0 0) rfl rfl rfl rfl (fun w hw => by rw [hl0]; exact (hw.none).nilRow _ _))
  · try exact Bool.noConfusion hc
    all_goals
     try replace hc := of_decide_eq_false hc
     try (exfalso; contradiction)
     all_goals
      refine G.skip ?_
      refine G.thenN ?_
      refine G.seq ?_
      refine G.region ?_
      refine G.op (og_lit rfl .nil rfl rfl rfl rfl rfl rfl) rfl (fun vl _ => ?_)
      refine G.v (rv_move rfl) rfl ?_
      ((refine G.op (og_app0 rfl rfl rfl (by exact Rd.stays (by assumption)) rfl rfl (by simp; omega) (by simp; omega)) rfl (fun va _ => ?_)))
      refine G.v (rv_assign rfl) rfl ?_
      refine G.done ?_
      refine G.thenN ?_
      refine G.ret ?_
      (refine G.know (fun w hw => (Rd.owned 0 rfl w hw).one_) (fun hone => G.retF va hone rfl rfl rfl (fun w hw => hw.sublist (by repeat (exact List.Sublist.refl _)))))
theorem kinds_any {v : Value} {l : List Int} (w : World) (h : Rd w v 1 (l.map icell)) (hn : l.length ≤ 12) : Fn Tryz.prog 149 [v] w (fun v : Value => v.oneCell' = true) (fun v => v) (fun v => [.row v 3 1 ((ddM (sortM l)).map icell)]) := by
  refine Fn.of (n := 10) Tryz.func149 rfl rfl ?_
  refine G.seq ?_
  refine G.region ?_
  refine G.v (rv_assign rfl) rfl ?_
  refine G.done ?_
  refine G.thenN ?_
  refine G.seq ?_
  refine G.region ?_
  refine G.v (rv_move rfl) rfl ?_
  (refine G.op (og_callF1 rfl rfl (fun w hh => clone_any w (Rd.stays h _ hh) (by omega))) rfl ?_; rintro v1 hv1; try dsimp only)
  refine G.v (rv_assign rfl) rfl ?_
  refine G.done ?_
  refine G.thenN ?_
  refine G.seq ?_
  refine G.region ?_
  refine G.v (rv_move rfl) rfl ?_
  ((refine G.frontR0 (v1) rfl ?_); refine G.op (og_callMM1 rfl rfl rfl (sort_any (ks := l) hn)) rfl ?_; rintro ⟨⟩ _; try dsimp only)
  refine G.done ?_
  refine G.thenN ?_
  refine G.seq ?_
  refine G.region ?_
  refine G.v (rv_move rfl) rfl ?_
  ((refine G.frontR0 (v1) rfl ?_); refine G.op (og_callMM1 rfl rfl rfl (compact_any (l := sortM l) (by rw [sortM_len]; omega))) rfl ?_; rintro v2 hv2; try dsimp only)
  refine G.v (rv_assign rfl) rfl ?_
  refine G.done ?_
  refine G.thenN ?_
  refine G.ret ?_
  exact G.retF v2 hv2 rfl rfl rfl (fun w hw => hw.sublist (by repeat (exact List.Sublist.refl _)))
end Go.Proofs.YtibkggjbkgdnkaaGreat

/-
  Kinds, ascending, each once: no program is in sight here.
-/
namespace Go.Proofs.YtibkggjbkgdnkaaGreat
open Go.RowKit
theorem ddStep_mem {acc : List Int} {y x : Int} : x ∈ ddStep acc y ↔ x ∈ acc ∨ x = y := by
  unfold ddStep
  split
  · rename_i h
    have : y ∈ acc := List.mem_of_getLast? h
    constructor
    · exact .inl
    · rintro (h1 | rfl)
      · exact h1
      · exact this
  · simp
theorem dd_memG : ∀ (l acc : List Int) (x : Int), x ∈ l.foldl ddStep acc ↔ x ∈ acc ∨ x ∈ l
  | [], acc, x => by simp
  | y :: r, acc, x => by rw [List.foldl_cons, dd_memG r, ddStep_mem, List.mem_cons, or_assoc]
theorem dd_mem {l : List Int} {x : Int} : x ∈ ddM l ↔ x ∈ l := by rw [ddM, dd_memG]; simp
theorem last_max {acc : List Int} {a y : Int} (h : acc.Pairwise (· < ·)) (hl : acc.getLast? = some y) (ha : a ∈ acc) : a ≤ y := by
  obtain ⟨ys, rfl⟩ := List.getLast?_eq_some_iff.1 hl
  rcases List.mem_append.1 ha with h1 | h1
  · have := (List.pairwise_append.1 h).2.2 a h1 y (by simp); omega
  · simp at h1; omega
theorem dd_ascG : ∀ (l acc : List Int), acc.Pairwise (· < ·) → l.Pairwise (· ≤ ·) → (∀ a ∈ acc, ∀ x ∈ l, a ≤ x) → (l.foldl ddStep acc).Pairwise (· < ·)
  | [], acc, h, _, _ => h
  | y :: r, acc, h, hl, hx => by
    rw [List.foldl_cons]
    have hr := List.pairwise_cons.1 hl
    refine dd_ascG r _ ?_ hr.2 (fun a ha x hxr => ?_)
    · unfold ddStep
      split
      · exact h
      · rename_i hn
        refine List.pairwise_append.2 ⟨h, List.pairwise_singleton _ _, fun a ha b hb => ?_⟩
        obtain rfl : b = y := by simpa using hb
        have h1 := hx a ha b (List.mem_cons_self)
        rcases Int.lt_or_eq_of_le h1 with h2 | h2
        · exact h2
        · exfalso
          cases hq : acc.getLast? with
          | none => rw [List.getLast?_eq_none_iff.1 hq] at ha; simp at ha
          | some z =>
            have h3 := last_max h hq ha
            have h4 := hx z (List.mem_of_getLast? hq) b (List.mem_cons_self)
            exact hn (by rw [hq]; congr 1; omega)
    · rcases ddStep_mem.1 ha with h1 | rfl
      · exact hx a h1 x (List.mem_cons_of_mem _ hxr)
      · exact hr.1 x hxr
theorem dd_asc {l : List Int} (h : l.Pairwise (· ≤ ·)) : (ddM l).Pairwise (· < ·) := dd_ascG l [] List.Pairwise.nil h (fun a ha => by simp at ha)
theorem asc_uniq : ∀ {xs ys : List Int}, xs.Pairwise (· < ·) → ys.Pairwise (· < ·) → (∀ x, x ∈ xs ↔ x ∈ ys) → xs = ys
  | [], [], _, _, _ => rfl
  | [], y :: ys, _, _, h => absurd ((h y).2 (List.mem_cons_self)) (by simp)
  | x :: xs, [], _, _, h => absurd ((h x).1 (List.mem_cons_self)) (by simp)
  | x :: xs, y :: ys, h1, h2, h => by
    have p1 := List.pairwise_cons.1 h1
    have p2 := List.pairwise_cons.1 h2
    have e : x = y := by
      rcases List.mem_cons.1 ((h x).1 (List.mem_cons_self)) with e | e
      · exact e
      · rcases List.mem_cons.1 ((h y).2 (List.mem_cons_self)) with e2 | e2
        · exact e2.symm
        · have := p2.1 x e; have := p1.1 y e2; omega
    subst e
    rw [asc_uniq p1.2 p2.2 (fun z => ⟨fun hz => ?_, fun hz => ?_⟩)]
    · rcases List.mem_cons.1 ((h z).1 (List.mem_cons_of_mem _ hz)) with e | e
      · have := p1.1 z hz; omega
      · exact e
    · rcases List.mem_cons.1 ((h z).2 (List.mem_cons_of_mem _ hz)) with e | e
      · have := p2.1 z hz; omega
      · exact e
theorem kinds_pres {r : ReqM} (h : r.items.all itemOkM = true) : ddM (sortM (r.items.map ItemM.cls)) = (presL r 4).map (fun n : Nat => (n : Int)) := by
  refine asc_uniq (dd_asc (sortM_srt _)) ?_ (fun x => ?_)
  · rw [List.pairwise_map]
    exact (List.pairwise_lt_range.sublist (List.filter_sublist)).imp (fun h => by omega)
  · rw [dd_mem, (sortM_perm _).mem_iff]
    simp only [presL, kindHere, List.mem_map, List.mem_filter, List.mem_range, List.any_eq_true, decide_eq_true_eq]
    constructor
    · rintro ⟨b, hb, rfl⟩
      have hc := List.all_eq_true.1 h b hb
      simp only [itemOkM, Bool.and_eq_true, inB, decide_eq_true_eq] at hc
      have h3 := hc.1.2
      exact ⟨b.cls.toNat, ⟨by omega, b, hb, by omega⟩, by omega⟩
    · rintro ⟨n, ⟨_, b, hb, e⟩, rfl⟩
      exact ⟨b, hb, e⟩
end Go.Proofs.YtibkggjbkgdnkaaGreat

/-
  The kinds that are there: the program's way.
-/
namespace Go.Proofs.YtibkggjbkgdnkaaGreat
open Go.RowKit
attribute [local irreducible] Go.wpList Go.Code.wp Go.Exit.then Go.Exit.inBlock Go.bodyPost Go.Calls pE pB G RunsV FnV Fn FnM
set_option maxRecDepth 100000
set_option maxHeartbeats 4000000
theorem cls_snoc {l : List ItemM} {k : Nat} {b : ItemM} (hb : l[k]? = some b) : ((l.take k).map ItemM.cls).map icell ++ [[.int .i64 b.cls]] = ((l.take (k + 1)).map ItemM.cls).map icell := by
  simp [List.take_add_one, hb, icell]
theorem present_any {r : ReqM} {pv tv iv : Value} (w : World) (h : Rd w pv 2 (r.pairs.map PairM.cells)) (h2 : Rd w tv 7 (r.types.map TypeM.cells)) (h3 : Rd w iv 7 (r.items.map ItemM.cells)) :
    Fn Tryz.prog 84 [.agg (r.cells pv tv iv).toArray] w (fun v : Value => v.oneCell' = true) (fun v => v) (fun v => [.row v 3 1 ((presM r).map ncell)]) := by
  have hle3 := h3.le_map
  refine Fn.of (n := 25) Tryz.func84 rfl rfl ?_
  refine G.seq ?_
  refine G.region ?_
  refine G.op (og_box rfl rfl) rfl (fun bk1 _ => ?_)
  refine G.v (rv_assign rfl) rfl ?_
  refine G.done ?_
  refine G.thenN ?_
  refine G.seq ?_
  refine G.seq ?_
  refine G.region ?_
  (first | refine G.v (rv_loadW 0 rfl rfl rfl) rfl ?_ | refine G.v (rv_loadW 1 rfl rfl rfl) rfl ?_ | refine G.v (rv_loadW 2 rfl rfl rfl) rfl ?_ | refine G.v (rv_loadW 3 rfl rfl rfl) rfl ?_ | refine G.v (rv_loadP 0 rfl rfl (.one (.one (.one (.one (.one (.one (.one (.one (.one (.one .nil))))))))))) rfl ?_ | refine G.v (rv_loadP 1 rfl rfl (.one (.one (.one (.one (.one (.one (.one (.one (.one (.one .nil))))))))))) rfl ?_ | refine G.v (rv_loadP 2 rfl rfl (.one (.one (.one (.one (.one (.one (.one (.one (.one (.one .nil))))))))))) rfl ?_ | refine G.v (rv_loadP 3 rfl rfl (.one (.one (.one (.one (.one (.one (.one (.one (.one (.one .nil))))))))))) rfl ?_)
  refine G.op (og_callV rfl rfl (fun w hh => sound_any (r := r) w (Rd.stays h _ hh) (Rd.stays h2 _ hh) (Rd.stays h3 _ hh))) rfl (fun _ _ => ?_)
  refine G.v (rv_not rfl) rfl ?_
  refine G.done ?_
  refine G.thenN ?_
  refine G.cond rfl (fun hc => ?_) (fun hc => ?_)
  · try exact Bool.noConfusion hc
    all_goals
     try replace hc := of_decide_eq_true hc
     try simp only [List.length_map] at hc
     try (exfalso; first | contradiction | omega)
     all_goals
      refine G.seq ?_
      refine G.region ?_
      refine G.v (rv_assign rfl) rfl ?_
      refine G.done ?_
      refine G.thenN ?_
      refine G.ret ?_
      refine G.thenR ?_
      first | exact G.retF vk hvk rfl rfl rfl (fun w hw => by rw [take_all (by omega), kinds_pres hit] at hw; rw [presM, if_pos hcl]; rw [List.map_map] at hw; exact hw.sublist (by repeat (first | exact List.Sublist.refl _ | refine List.Sublist.cons_cons _ ?_ | refine List.Sublist.cons _ ?_))) | exact G.retF (.slice none 0 0) rfl rfl rfl rfl (fun w hw => by rw [presM, if_neg (by first | exact of_decide_eq_false (by simpa using hc) | simpa using hc)]; exact (hw.none).nilRow _ _)
  · try exact Bool.noConfusion hc
    all_goals
     try replace hc := of_decide_eq_false hc
     try simp only [List.length_map] at hc
     try (exfalso; first | contradiction | omega)
     all_goals
      refine G.skip ?_
      refine G.thenN ?_
      refine G.seq ?_
      refine G.region ?_
      refine G.op (og_lit rfl .nil rfl rfl rfl rfl rfl rfl) rfl (fun vl _ => ?_)
      refine G.v (rv_assign rfl) rfl ?_
      refine G.done ?_
      refine G.thenN ?_
      refine G.seq ?_
      refine G.seq ?_
      refine G.region ?_
      (first | refine G.v (rv_field rfl) rfl ?_ | refine G.v (rv_fieldE rfl) rfl ?_)
      (first | refine G.v (rv_load1 0 rfl rfl rfl) rfl ?_ | refine G.v (rv_load1 1 rfl rfl rfl) rfl ?_ | refine G.v (rv_load1 2 rfl rfl rfl) rfl ?_ | refine G.v (rv_load1 3 rfl rfl rfl) rfl ?_)
      refine G.v (rv_len rfl (by first | exact Rd.stays (by assumption) | exact Rd.owned 0 rfl | exact Rd.owned 1 rfl | exact Rd.owned 2 rfl | exact Rd.owned 3 rfl)) rfl ?_
      refine G.v (rv_move rfl) rfl ?_
      refine G.done ?_
      refine G.thenN ?_
      refine G.block ?_
      -- loop 0: turned [3, 13], kept [11, 12]
      have hcl : classM r = 0 := (by first | exact of_decide_eq_true (by simpa using hc) | simpa using hc)
      have hit := bounds_items (cls_sound hcl)
      have h8 := (bounds_lens (cls_sound hcl)).1
      refine G.loopK (ι := Nat × Value) (ks := [11, 12]) (fun x => [(3, x.2), (13, .int .i64 (x.1 : Int))]) (fun x => [.row x.2 3 1 (((r.items.take x.1).map ItemM.cls).map icell)]) (fun x => x.1 ≤ r.items.length) (fun x => r.items.length - x.1) (0, vl) (.cons rfl (.cons rfl (.nil))) rfl ?_ ?_ ?_
      · exact Nat.zero_le _
      · exact ⟨rfl, rfl, trivial⟩
      rintro ⟨k, v⟩ hk
      dsimp only at hk ⊢
      have hul : (((r.items.take k).map ItemM.cls).map icell).length = k := (by rw [List.length_map, List.length_map, List.length_take]; omega)
      have hul2 : ((r.items.take k).map ItemM.cls).length = k := (by rw [List.length_map, List.length_take]; omega)
      have hul3 : (r.items.take k).length = k := (by rw [List.length_take]; omega)
      by_cases hlt : k < r.items.length
      case' pos => (obtain ⟨b, hb⟩ := get_of_lt hlt; have he := get_map hb ItemM.cells)
      all_goals
       refine G.seq ?_
       refine G.region ?_
       refine G.v (rv_lss rfl rfl) rfl ?_
       refine G.done ?_
       refine G.thenN ?_
       refine G.seq ?_
       refine G.cond rfl (fun hc => ?_) (fun hc => ?_)
       · try exact Bool.noConfusion hc
         all_goals
          try replace hc := of_decide_eq_true hc
          try simp only [List.length_map] at hc
          try (exfalso; first | contradiction | omega)
          all_goals
           refine G.skip ?_
           refine G.thenN ?_
           refine G.seq ?_
           refine G.block ?_
           refine G.seq ?_
           refine G.region ?_
           (first | refine G.v (rv_indexH rfl rfl (by first | exact Rd.stays (by assumption) | exact Rd.owned 0 rfl | exact Rd.owned 1 rfl | exact Rd.owned 2 rfl | exact Rd.owned 3 rfl) rfl (by assumption)) rfl ?_ | refine G.v (rv_index rfl rfl (by first | exact Rd.stays (by assumption) | exact Rd.owned 0 rfl | exact Rd.owned 1 rfl | exact Rd.owned 2 rfl | exact Rd.owned 3 rfl) rfl (by assumption)) rfl ?_)
           (first | refine G.v (rv_loadEW rfl (by first | exact Rd.stays (by assumption) | exact Rd.owned 0 rfl | exact Rd.owned 1 rfl | exact Rd.owned 2 rfl | exact Rd.owned 3 rfl) (by assumption) rfl) rfl ?_ | refine G.v (rv_loadEP rfl (by first | exact Rd.stays (by assumption) | exact Rd.owned 0 rfl | exact Rd.owned 1 rfl | exact Rd.owned 2 rfl | exact Rd.owned 3 rfl) (by assumption) (.one (.one (.one (.one (.one (.one (.one .nil)))))))) rfl ?_)
           refine G.op (og_alloc) rfl (fun bk5 _ => ?_)
           (first | refine G.op0 (og_st0 rfl rfl rfl rfl rfl rfl (.zero (.cons (.cons (.cons (.cons (.cons (.cons (.cons .nil))))))))) (fun _ _ => ?_) | refine G.op0 (og_st1 rfl rfl rfl rfl rfl rfl (.zero (.cons (.cons (.cons (.cons (.cons (.cons (.cons .nil))))))))) (fun _ _ => ?_) | refine G.op0 (og_st2 rfl rfl rfl rfl rfl rfl (.zero (.cons (.cons (.cons (.cons (.cons (.cons (.cons .nil))))))))) (fun _ _ => ?_) | refine G.op0 (og_st3 rfl rfl rfl rfl rfl rfl (.zero (.cons (.cons (.cons (.cons (.cons (.cons (.cons .nil))))))))) (fun _ _ => ?_))
           refine G.done ?_
           refine G.thenN ?_
           refine G.region ?_
           refine G.v (rv_move rfl) rfl ?_
           (first | refine G.v (rv_field rfl) rfl ?_ | refine G.v (rv_fieldE rfl) rfl ?_)
           (first | refine G.v (rv_load1 0 rfl rfl rfl) rfl ?_ | refine G.v (rv_load1 1 rfl rfl rfl) rfl ?_ | refine G.v (rv_load1 2 rfl rfl rfl) rfl ?_ | refine G.v (rv_load1 3 rfl rfl rfl) rfl ?_)
           refine G.op (og_lit rfl (.cons rfl .nil) rfl rfl rfl rfl rfl rfl) rfl (fun vl _ => ?_)
           (first | refine G.op (og_app0 rfl rfl rfl (by first | exact Rd.stays (by assumption) | exact Rd.owned 0 rfl | exact Rd.owned 1 rfl | exact Rd.owned 2 rfl | exact Rd.owned 3 rfl) rfl rfl (by simp; omega) (by simp; omega)) rfl (fun va _ => ?_) | refine G.op (og_app1 rfl rfl rfl (by first | exact Rd.stays (by assumption) | exact Rd.owned 0 rfl | exact Rd.owned 1 rfl | exact Rd.owned 2 rfl | exact Rd.owned 3 rfl) rfl rfl (by simp; omega) (by simp; omega)) rfl (fun va _ => ?_) | refine G.op (og_app2 rfl rfl rfl (by first | exact Rd.stays (by assumption) | exact Rd.owned 0 rfl | exact Rd.owned 1 rfl | exact Rd.owned 2 rfl | exact Rd.owned 3 rfl) rfl rfl (by simp; omega) (by simp; omega)) rfl (fun va _ => ?_) | refine G.op (og_app3 rfl rfl rfl (by first | exact Rd.stays (by assumption) | exact Rd.owned 0 rfl | exact Rd.owned 1 rfl | exact Rd.owned 2 rfl | exact Rd.owned 3 rfl) rfl rfl (by simp; omega) (by simp; omega)) rfl (fun va _ => ?_))
           refine G.v (rv_assign rfl) rfl ?_
           refine G.done ?_
           refine G.inN ?_
           refine G.thenN ?_
           refine G.region ?_
           (first | refine G.v (rv_incr rfl rfl (by omega)) rfl ?_ | refine G.v (rv_addB rfl rfl (by omega) (by omega)) rfl ?_)
           refine G.v (rv_move rfl) rfl ?_
           refine G.done ?_
           first | refine G.backK (k + 1, va) 0 (one_eq (congrArg (fun z => Ch.row va 3 1 z) (cls_snoc hb))) (.cons rfl (.cons rfl (.nil))) ?_ ?_ ?_ | refine G.backK (k + 1, va) 1 (one_eq (congrArg (fun z => Ch.row va 3 1 z) (cls_snoc hb))) (.cons rfl (.cons rfl (.nil))) ?_ ?_ ?_ | refine G.backK (k + 1, va) 2 (one_eq (congrArg (fun z => Ch.row va 3 1 z) (cls_snoc hb))) (.cons rfl (.cons rfl (.nil))) ?_ ?_ ?_ | refine G.backK (k + 1, va) 3 (one_eq (congrArg (fun z => Ch.row va 3 1 z) (cls_snoc hb))) (.cons rfl (.cons rfl (.nil))) ?_ ?_ ?_
           · exact ⟨rfl, rfl, trivial⟩
           · exact hlt
           · dsimp only; omega
       · try exact Bool.noConfusion hc
         all_goals
          try replace hc := of_decide_eq_false hc
          try simp only [List.length_map] at hc
          try (exfalso; first | contradiction | omega)
          all_goals
           refine G.exit ?_
           refine G.thenX ?_
           refine G.thenX ?_
           refine G.inX ?_
           refine G.thenN ?_
           refine G.seq ?_
           refine G.region ?_
           refine G.v (rv_move rfl) rfl ?_
           (refine G.op (og_callF1 rfl rfl (fun w hh => kinds_any (l := (r.items.take k).map ItemM.cls) w (by first | exact Rd.owned 0 rfl _ hh | exact Rd.owned 1 rfl _ hh) (by omega))) rfl ?_; rintro vk hvk; try dsimp only)
           refine G.v (rv_assign rfl) rfl ?_
           refine G.done ?_
           refine G.thenN ?_
           refine G.ret ?_
           first | exact G.retF vk hvk rfl rfl rfl (fun w hw => by rw [take_all (by omega), kinds_pres hit] at hw; rw [presM, if_pos hcl]; rw [List.map_map] at hw; exact hw.sublist (by repeat (first | exact List.Sublist.refl _ | refine List.Sublist.cons_cons _ ?_ | refine List.Sublist.cons _ ?_))) | exact G.retF (.slice none 0 0) rfl rfl rfl rfl (fun w hw => by rw [presM, if_neg (by first | exact of_decide_eq_false (by simpa using hc) | simpa using hc)]; exact (hw.none).nilRow _ _)
end Go.Proofs.YtibkggjbkgdnkaaGreat

/-
  Closures that tell whether a kind may lie beside a group.
-/
namespace Go.Proofs.YtibkggjbkgdnkaaGreat
open Go.RowKit
attribute [local irreducible] Go.wpList Go.Code.wp Go.Exit.then Go.Exit.inBlock Go.bodyPost Go.Calls pE pB G RunsV FnV Fn FnM
set_option maxRecDepth 100000
set_option maxHeartbeats 4000000
theorem indexInt_any {g : Nat} [FnOk Tryz.prog g] {cap : List Value} {v : Value} {l : List Int} {p : Int → Bool} (w : World) (h : Rd w v 1 (l.map icell)) (hf : ∀ (w' : World) (k : Nat) (b : Int), HeapOk w w' [] → l[k]? = some b → FnV Tryz.prog g ([.int .i64 b] ++ cap) w' (.bool (p b))) :
    FnV Tryz.prog 202 [v, .func (.func g) #[] cap.toArray] w (.int .i64 (idxM p l)) := by
  have hle := h.le_map
  have hln : (l.map icell).length = l.length := by simp
  refine FnV.of (n := 19) Tryz.func202 rfl rfl ?_
  refine G.seq ?_
  refine G.region ?_
  refine G.v (rv_assign rfl) rfl ?_
  refine G.done ?_
  refine G.thenN ?_
  refine G.seq ?_
  refine G.seq ?_
  refine G.region ?_
  refine G.v (rv_move rfl) rfl ?_
  refine G.v (rv_len rfl (by first | exact Rd.stays (by assumption))) rfl ?_
  refine G.v (rv_move rfl) rfl ?_
  refine G.done ?_
  refine G.thenN ?_
  refine G.block ?_
  -- loop 0: turned [8], kept [0, 1, 7]
  refine G.loopK (ι := Nat) (ks := [0, 1, 7]) (fun k => [(8, .int .i64 k)]) (fun _ => []) (fun k => k ≤ l.length ∧ (l.take k).any p = false) (fun k => l.length - k) 0 (.cons rfl (.cons rfl (.cons rfl (.nil)))) rfl ?_ ?_ ?_
  · exact ⟨Nat.zero_le _, rfl⟩
  · exact ⟨rfl, trivial⟩
  rintro k ⟨hk, ht⟩
  by_cases hlt : k < l.length
  case' pos => (obtain ⟨b, hb⟩ := get_of_lt hlt; have he := get_map hb icell)
  all_goals
   refine G.seq ?_
   refine G.region ?_
   refine G.v (rv_lss rfl rfl) rfl ?_
   refine G.done ?_
   refine G.thenN ?_
   refine G.seq ?_
   refine G.cond rfl (fun hc => ?_) (fun hc => ?_)
   · try exact Bool.noConfusion hc
     all_goals
      try replace hc := of_decide_eq_true hc
      try (exfalso; first | contradiction | omega)
      all_goals
       refine G.skip ?_
       refine G.thenN ?_
       refine G.seq ?_
       refine G.block ?_
       refine G.seq ?_
       refine G.region ?_
       refine G.v (rv_move rfl) rfl ?_
       refine G.v (rv_assign rfl) rfl ?_
       refine G.done ?_
       refine G.thenN ?_
       refine G.seq ?_
       refine G.region ?_
       refine G.v (rv_move rfl) rfl ?_
       refine G.v (rv_move rfl) rfl ?_
       refine G.v (rv_move rfl) rfl ?_
       (first | refine G.v (rv_indexH rfl rfl (by first | exact Rd.stays (by assumption)) rfl (by assumption)) rfl ?_ | refine G.v (rv_index rfl rfl (by first | exact Rd.stays (by assumption)) rfl (by assumption)) rfl ?_)
       refine G.v (rv_loadE rfl (by first | exact Rd.stays (by assumption)) (by assumption) rfl) rfl ?_
       refine G.op (og_callV rfl rfl (fun w hh => hf w k b hh.none hb)) rfl (fun _ _ => ?_)
       refine G.done ?_
       refine G.thenN ?_
       refine G.cond rfl (fun hc => ?_) (fun hc => ?_)
       · try exact Bool.noConfusion hc
         all_goals
          try replace hc := of_decide_eq_true hc
          try (exfalso; first | contradiction | omega)
          all_goals
           refine G.seq ?_
           refine G.region ?_
           refine G.v (rv_move rfl) rfl ?_
           refine G.v (rv_assign rfl) rfl ?_
           refine G.done ?_
           refine G.thenN ?_
           refine G.ret ?_
           refine G.inR ?_
           refine G.thenR ?_
           refine G.thenR ?_
           refine G.inR ?_
           refine G.thenR ?_
           first | exact G.retFV rfl rfl (congrArg (Value.int .i64) (idx_at ht hb hc).symm) | exact G.retFV rfl rfl (congrArg (Value.int .i64) (idx_none ht hlt).symm)
       · try exact Bool.noConfusion hc
         all_goals
          try replace hc := of_decide_eq_false hc
          try (exfalso; first | contradiction | omega)
          all_goals
           refine G.skip ?_
           refine G.inN ?_
           refine G.thenN ?_
           refine G.region ?_
           (first | refine G.v (rv_incr rfl rfl (by omega)) rfl ?_ | refine G.v (rv_addB rfl rfl (by omega) (by omega)) rfl ?_)
           refine G.v (rv_move rfl) rfl ?_
           refine G.done ?_
           first | refine G.backK (k + 1) 0 rfl (.cons rfl (.cons rfl (.cons rfl (.nil)))) ?_ ?_ ?_
           · exact ⟨rfl, trivial⟩
           · exact ⟨hlt, any_next ht hb hc⟩
           · omega
   · try exact Bool.noConfusion hc
     all_goals
      try replace hc := of_decide_eq_false hc
      try (exfalso; first | contradiction | omega)
      all_goals
       refine G.exit ?_
       refine G.thenX ?_
       refine G.thenX ?_
       refine G.inX ?_
       refine G.thenN ?_
       refine G.seq ?_
       refine G.region ?_
       refine G.v (rv_assign rfl) rfl ?_
       refine G.done ?_
       refine G.thenN ?_
       refine G.ret ?_
       first | exact G.retFV rfl rfl (congrArg (Value.int .i64) (idx_at ht hb hc).symm) | exact G.retFV rfl rfl (congrArg (Value.int .i64) (idx_none ht hlt).symm)
theorem containsInt_any {g : Nat} [FnOk Tryz.prog g] {cap : List Value} {v : Value} {l : List Int} {p : Int → Bool} (w : World) (h : Rd w v 1 (l.map icell)) (hf : ∀ (w' : World) (k : Nat) (b : Int), HeapOk w w' [] → l[k]? = some b → FnV Tryz.prog g ([.int .i64 b] ++ cap) w' (.bool (p b))) :
    FnV Tryz.prog 151 [v, .func (.func g) #[] cap.toArray] w (.bool (l.any p)) := by
  refine FnV.of (n := 9) Tryz.func151 rfl rfl ?_
  refine G.seq ?_
  refine G.region ?_
  refine G.v (rv_assign rfl) rfl ?_
  refine G.done ?_
  refine G.thenN ?_
  refine G.seq ?_
  refine G.region ?_
  refine G.v (rv_move rfl) rfl ?_
  refine G.v (rv_move rfl) rfl ?_
  refine G.op (og_callV rfl rfl (fun w hh => indexInt_any w (Rd.stays h _ hh) (fun w' k b hw hb => hf w' k b ((hh.call hw).none) hb))) rfl (fun _ _ => ?_)
  refine G.v (rv_geq rfl rfl) rfl ?_
  refine G.v (rv_assign rfl) rfl ?_
  refine G.done ?_
  refine G.thenN ?_
  refine G.ret ?_
  exact G.retFV rfl rfl (congrArg Value.bool (idx_any p l))
theorem groups11_any {ps : List PairM} {pv : Value} (k x : Int) {q1 q2 : Nat} (w : World) (h : Rd w pv 2 (ps.map PairM.cells)) (h1 : Rd w (.slice (some ⟨q1, 0, none⟩) 1 1) 1 [[pv]]) (h2 : Rd w (.slice (some ⟨q2, 0, none⟩) 1 1) 1 [[.int .i64 k]]) : FnV Tryz.prog 152 [.int .i64 x, pB q1 0, pB q2 0] w (.bool (!mutM ps k x)) := by
  rw [pB_eq_pE q1 1, pB_eq_pE q2 1]
  refine FnV.of (n := 10) Tryz.func152 rfl rfl ?_
  refine G.seq ?_
  refine G.region ?_
  refine G.v (rv_assign rfl) rfl ?_
  refine G.done ?_
  refine G.thenN ?_
  refine G.seq ?_
  refine G.region ?_
  (first | refine G.v (rv_load1 0 rfl rfl rfl) rfl ?_ | refine G.v (rv_loadE rfl (by first | exact Rd.stays (by assumption) | exact Rd.owned 0 rfl) rfl rfl) rfl ?_)
  (first | refine G.v (rv_load1 0 rfl rfl rfl) rfl ?_ | refine G.v (rv_loadE rfl (by first | exact Rd.stays (by assumption) | exact Rd.owned 0 rfl) rfl rfl) rfl ?_)
  refine G.v (rv_move rfl) rfl ?_
  refine G.op (og_callV rfl rfl (fun w hh => mutual_any _ _ w (Rd.stays h _ hh))) rfl (fun _ _ => ?_)
  refine G.v (rv_not rfl) rfl ?_
  refine G.v (rv_assign rfl) rfl ?_
  refine G.done ?_
  refine G.thenN ?_
  refine G.ret ?_
  exact G.retFV rfl rfl rfl
theorem groups1_any {ps : List PairM} {pv u : Value} {l : List Int} (k : Int) {q1 q2 : Nat} (w : World) (h : Rd w pv 2 (ps.map PairM.cells)) (h3 : Rd w u 1 (l.map icell)) (h1 : Rd w (.slice (some ⟨q1, 0, none⟩) 1 1) 1 [[pv]]) (h2 : Rd w (.slice (some ⟨q2, 0, none⟩) 1 1) 1 [[.int .i64 k]]) : FnV Tryz.prog 150 [u, pB q1 0, pB q2 0] w (.bool (joinsM ps l k)) := by
  refine FnV.of (n := 9) Tryz.func150 rfl rfl ?_
  refine G.seq ?_
  refine G.region ?_
  refine G.v (rv_assign rfl) rfl ?_
  refine G.done ?_
  refine G.thenN ?_
  refine G.seq ?_
  refine G.region ?_
  refine G.v (rv_move rfl) rfl ?_
  refine G.v (rv_makeFunc rfl rfl) rfl ?_
  refine G.op (og_callV rfl rfl (fun w hh => (containsInt_any (l := l) w (Rd.stays h3 _ hh) (fun w' j x hw hb => groups11_any (ps := ps) (pv := pv) k x w' (Rd.stays (Rd.stays h _ hh) w' hw) (Rd.stays (Rd.stays h1 _ hh) w' hw) (Rd.stays (Rd.stays h2 _ hh) w' hw))).mono (congrArg Value.bool any_not))) rfl (fun _ _ => ?_)
  refine G.v (rv_not rfl) rfl ?_
  refine G.v (rv_assign rfl) rfl ?_
  refine G.done ?_
  refine G.thenN ?_
  refine G.ret ?_
  refine G.retFV rfl rfl (congrArg Value.bool ?_); rw [joinsM, Bool.not_not]
end Go.Proofs.YtibkggjbkgdnkaaGreat

/-
  A table of groups, looked through.
-/
namespace Go.Proofs.YtibkggjbkgdnkaaGreat
open Go.RowKit
attribute [local irreducible] Go.wpList Go.Code.wp Go.Exit.then Go.Exit.inBlock Go.bodyPost Go.Calls pE pB G RunsV FnV Fn FnM
set_option maxRecDepth 100000
set_option maxHeartbeats 4000000
def gcell (x : List Int × Value) : List Value := [x.2]
theorem indexTbl_any {g : Nat} [FnOk Tryz.prog g] {cap : List Value} {v : Value} {l : List (List Int × Value)} {p : List Int → Bool} (w : World) (h : Rd w v 1 (l.map gcell)) (hf : ∀ (w' : World) (k : Nat) (b : List Int × Value), HeapOk w w' [] → l[k]? = some b → FnV Tryz.prog g ([b.2] ++ cap) w' (.bool (p b.1))) :
    FnV Tryz.prog 103 [v, .func (.func g) #[] cap.toArray] w (.int .i64 (idxM (fun b => p b.1) l)) := by
  have hle := h.le_map
  have hln : (l.map gcell).length = l.length := by simp
  refine FnV.of (n := 19) Tryz.func103 rfl rfl ?_
  refine G.seq ?_
  refine G.region ?_
  refine G.v (rv_assign rfl) rfl ?_
  refine G.done ?_
  refine G.thenN ?_
  refine G.seq ?_
  refine G.seq ?_
  refine G.region ?_
  refine G.v (rv_move rfl) rfl ?_
  refine G.v (rv_len rfl (by first | exact Rd.stays (by assumption))) rfl ?_
  refine G.v (rv_move rfl) rfl ?_
  refine G.done ?_
  refine G.thenN ?_
  refine G.block ?_
  -- loop 0: turned [8], kept [0, 1, 7]
  refine G.loopK (ι := Nat) (ks := [0, 1, 7]) (fun k => [(8, .int .i64 k)]) (fun _ => []) (fun k => k ≤ l.length ∧ (l.take k).any (fun b => p b.1) = false) (fun k => l.length - k) 0 (.cons rfl (.cons rfl (.cons rfl (.nil)))) rfl ?_ ?_ ?_
  · exact ⟨Nat.zero_le _, rfl⟩
  · exact ⟨rfl, trivial⟩
  rintro k ⟨hk, ht⟩
  by_cases hlt : k < l.length
  case' pos => (obtain ⟨b, hb⟩ := get_of_lt hlt; have he := get_map hb gcell)
  all_goals
   refine G.seq ?_
   refine G.region ?_
   refine G.v (rv_lss rfl rfl) rfl ?_
   refine G.done ?_
   refine G.thenN ?_
   refine G.seq ?_
   refine G.cond rfl (fun hc => ?_) (fun hc => ?_)
   · try exact Bool.noConfusion hc
     all_goals
      try replace hc := of_decide_eq_true hc
      try (exfalso; first | contradiction | omega)
      all_goals
       refine G.skip ?_
       refine G.thenN ?_
       refine G.seq ?_
       refine G.block ?_
       refine G.seq ?_
       refine G.region ?_
       refine G.v (rv_move rfl) rfl ?_
       refine G.v (rv_assign rfl) rfl ?_
       refine G.done ?_
       refine G.thenN ?_
       refine G.seq ?_
       refine G.region ?_
       refine G.v (rv_move rfl) rfl ?_
       refine G.v (rv_move rfl) rfl ?_
       refine G.v (rv_move rfl) rfl ?_
       (first | refine G.v (rv_indexH rfl rfl (by first | exact Rd.stays (by assumption)) rfl (by assumption)) rfl ?_ | refine G.v (rv_index rfl rfl (by first | exact Rd.stays (by assumption)) rfl (by assumption)) rfl ?_)
       refine G.v (rv_loadE rfl (by first | exact Rd.stays (by assumption)) (by assumption) rfl) rfl ?_
       refine G.op (og_callV rfl rfl (fun w hh => hf w k b hh.none hb)) rfl (fun _ _ => ?_)
       refine G.done ?_
       refine G.thenN ?_
       refine G.cond rfl (fun hc => ?_) (fun hc => ?_)
       · try exact Bool.noConfusion hc
         all_goals
          try replace hc := of_decide_eq_true hc
          try (exfalso; first | contradiction | omega)
          all_goals
           refine G.seq ?_
           refine G.region ?_
           refine G.v (rv_move rfl) rfl ?_
           refine G.v (rv_assign rfl) rfl ?_
           refine G.done ?_
           refine G.thenN ?_
           refine G.ret ?_
           refine G.inR ?_
           refine G.thenR ?_
           refine G.thenR ?_
           refine G.inR ?_
           refine G.thenR ?_
           first | exact G.retFV rfl rfl (congrArg (Value.int .i64) (idx_at ht hb hc).symm) | exact G.retFV rfl rfl (congrArg (Value.int .i64) (idx_none ht hlt).symm)
       · try exact Bool.noConfusion hc
         all_goals
          try replace hc := of_decide_eq_false hc
          try (exfalso; first | contradiction | omega)
          all_goals
           refine G.skip ?_
           refine G.inN ?_
           refine G.thenN ?_
           refine G.region ?_
           (first | refine G.v (rv_incr rfl rfl (by omega)) rfl ?_ | refine G.v (rv_addB rfl rfl (by omega) (by omega)) rfl ?_)
           refine G.v (rv_move rfl) rfl ?_
           refine G.done ?_
           first | refine G.backK (k + 1) 0 rfl (.cons rfl (.cons rfl (.cons rfl (.nil)))) ?_ ?_ ?_
           · exact ⟨rfl, trivial⟩
           · exact ⟨hlt, any_next ht hb hc⟩
           · omega
   · try exact Bool.noConfusion hc
     all_goals
      try replace hc := of_decide_eq_false hc
      try (exfalso; first | contradiction | omega)
      all_goals
       refine G.exit ?_
       refine G.thenX ?_
       refine G.thenX ?_
       refine G.inX ?_
       refine G.thenN ?_
       refine G.seq ?_
       refine G.region ?_
       refine G.v (rv_assign rfl) rfl ?_
       refine G.done ?_
       refine G.thenN ?_
       refine G.ret ?_
       first | exact G.retFV rfl rfl (congrArg (Value.int .i64) (idx_at ht hb hc).symm) | exact G.retFV rfl rfl (congrArg (Value.int .i64) (idx_none ht hlt).symm)
theorem eqIntSS_any {u v : Value} {xs ys : List (List Int × Value)} (w : World) (h : Rd w u 1 (xs.map gcell)) (hs : Subs w id xs) (h2 : Rd w v 1 (ys.map gcell)) (hs2 : Subs w id ys) :
    FnV Tryz.prog 22 [u, v] w (.bool (decide (xs.map Prod.fst = ys.map Prod.fst))) := by
  have hle := h.le_map
  have hln : (xs.map gcell).length = xs.length := by simp
  have hln2 : (ys.map gcell).length = ys.length := by simp
  have hln3 : (xs.map Prod.fst).length = xs.length := by simp
  have hln4 : (ys.map Prod.fst).length = ys.length := by simp
  refine FnV.of (n := 27) Tryz.func22 rfl rfl ?_
  refine G.seq ?_
  refine G.region ?_
  refine G.v (rv_assign rfl) rfl ?_
  refine G.done ?_
  refine G.thenN ?_
  refine G.seq ?_
  refine G.seq ?_
  refine G.region ?_
  refine G.v (rv_move rfl) rfl ?_
  refine G.v (rv_len rfl (by first | exact Rd.stays (by assumption))) rfl ?_
  refine G.v (rv_move rfl) rfl ?_
  refine G.v (rv_len rfl (by first | exact Rd.stays (by assumption))) rfl ?_
  refine G.v (rv_neq rfl rfl) rfl ?_
  refine G.done ?_
  refine G.thenN ?_
  refine G.cond rfl (fun hc => ?_) (fun hc => ?_)
  · try exact Bool.noConfusion hc
    all_goals
     try replace hc := of_decide_eq_true hc
     try (exfalso; first | contradiction | omega)
     all_goals
      refine G.seq ?_
      refine G.region ?_
      refine G.v (rv_assign rfl) rfl ?_
      refine G.done ?_
      refine G.thenN ?_
      refine G.ret ?_
      refine G.thenR ?_
      first | exact G.retFV rfl rfl (congrArg Value.bool (by rw [eq_comm, decide_eq_false]; intro hq; have := congrArg List.length hq; omega)) | exact G.retFV rfl rfl (eqS_elt hab.1 hab.2 hc) | exact G.retFV rfl rfl (eqS_all ht (by omega) (by omega))
  · try exact Bool.noConfusion hc
    all_goals
     try replace hc := of_decide_eq_false hc
     try (exfalso; first | contradiction | omega)
     all_goals
      refine G.skip ?_
      refine G.thenN ?_
      refine G.seq ?_
      refine G.seq ?_
      refine G.region ?_
      refine G.v (rv_assign rfl) rfl ?_
      refine G.done ?_
      refine G.thenN ?_
      refine G.block ?_
      -- loop 0: turned [5], kept [0, 1]
      refine G.loopK (ι := Nat) (ks := [0, 1]) (fun k => [(5, .int .i64 k)]) (fun _ => []) (fun k => k ≤ xs.length ∧ (xs.map Prod.fst).take k = (ys.map Prod.fst).take k) (fun k => xs.length - k) 0 (.cons rfl (.cons rfl (.nil))) rfl ?_ ?_ ?_
      · exact ⟨Nat.zero_le _, rfl⟩
      · exact ⟨rfl, trivial⟩
      rintro k ⟨hk, ht⟩
      by_cases hlt : k < xs.length
      case' pos => (obtain ⟨a, ha⟩ := get_of_lt hlt; obtain ⟨b, hb⟩ := get_of_lt (l := ys) (k := k) (by omega); have he := get_map ha gcell; have he2 := get_map hb gcell; have hab := fst_get ha hb)
      all_goals
       refine G.seq ?_
       refine G.seq ?_
       refine G.region ?_
       refine G.v (rv_move rfl) rfl ?_
       refine G.v (rv_move rfl) rfl ?_
       refine G.v (rv_len rfl (by first | exact Rd.stays (by assumption))) rfl ?_
       refine G.v (rv_lss rfl rfl) rfl ?_
       refine G.done ?_
       refine G.thenN ?_
       refine G.cond rfl (fun hc => ?_) (fun hc => ?_)
       · try exact Bool.noConfusion hc
         all_goals
          try replace hc := of_decide_eq_true hc
          try (exfalso; first | contradiction | omega)
          all_goals
           refine G.skip ?_
           refine G.thenN ?_
           refine G.seq ?_
           refine G.block ?_
           refine G.seq ?_
           refine G.drawL [] ?_
           refine GE.q 0 rfl (by as_aux_lemma => kernel_rfl) rfl (qg_runs (rv_move rfl)) rfl ?_
           refine GE.q 1 rfl (by as_aux_lemma => kernel_rfl) rfl (qg_runs (rv_move rfl)) rfl ?_
           (first | refine GE.q 2 rfl (by as_aux_lemma => kernel_rfl) rfl (qg_runs (rv_indexH rfl rfl (by first | exact Rd.stays (by assumption)) rfl (by first | exact he | exact he2))) rfl ?_ | refine GE.q 2 rfl (by as_aux_lemma => kernel_rfl) rfl (qg_runs (rv_index rfl rfl (by first | exact Rd.stays (by assumption)) rfl (by assumption))) rfl ?_)
           refine GE.q 3 rfl (by as_aux_lemma => kernel_rfl) rfl (qg_runs (rv_loadE rfl (by first | exact Rd.stays (by assumption)) (by first | exact he | exact he2) rfl)) rfl ?_
           refine GE.q 4 rfl (by as_aux_lemma => kernel_rfl) rfl (qg_runs (rv_move rfl)) rfl ?_
           refine GE.ol 5 (by as_aux_lemma => kernel_rfl) rfl rfl (og_runs (rv_move rfl)) rfl (fun _ _ h => by first | exact h | exact h.drop 1 | exact h.drop 2 | exact h.drop 3 | exact h.drop 4 | exact h.drop 5 | exact h.drop 6 | exact h.drop 7 | exact h.drop 8 | exact h.drop 9 | exact h.drop 10 | exact h.drop 11 | exact h.drop 12 | exact h.drop 13) (fun _ _ => ?_)
           (first | refine GE.ol 6 (by as_aux_lemma => kernel_rfl) rfl rfl (og_runs (rv_indexH rfl rfl (by first | exact Rd.stays (by assumption)) rfl (by first | exact he | exact he2))) rfl (fun _ _ h => by first | exact h | exact h.drop 1 | exact h.drop 2 | exact h.drop 3 | exact h.drop 4 | exact h.drop 5 | exact h.drop 6 | exact h.drop 7 | exact h.drop 8 | exact h.drop 9 | exact h.drop 10 | exact h.drop 11 | exact h.drop 12 | exact h.drop 13) (fun _ _ => ?_) | refine GE.ol 6 (by as_aux_lemma => kernel_rfl) rfl rfl (og_runs (rv_index rfl rfl (by first | exact Rd.stays (by assumption)) rfl (by assumption))) rfl (fun _ _ h => by first | exact h | exact h.drop 1 | exact h.drop 2 | exact h.drop 3 | exact h.drop 4 | exact h.drop 5 | exact h.drop 6 | exact h.drop 7 | exact h.drop 8 | exact h.drop 9 | exact h.drop 10 | exact h.drop 11 | exact h.drop 12 | exact h.drop 13) (fun _ _ => ?_))
           refine GE.ol 7 (by as_aux_lemma => kernel_rfl) rfl rfl (og_runs (rv_loadE rfl (by first | exact Rd.stays (by assumption)) (by first | exact he | exact he2) rfl)) rfl (fun _ _ h => by first | exact h | exact h.drop 1 | exact h.drop 2 | exact h.drop 3 | exact h.drop 4 | exact h.drop 5 | exact h.drop 6 | exact h.drop 7 | exact h.drop 8 | exact h.drop 9 | exact h.drop 10 | exact h.drop 11 | exact h.drop 12 | exact h.drop 13) (fun _ _ => ?_)
           refine GE.ol 8 (by as_aux_lemma => kernel_rfl) rfl rfl (og_callV rfl rfl (fun w hh => eqIntS_any (xs := a.1) (ys := b.1) w (Rd.stays (hs.at ha) _ hh) (Rd.stays (hs2.at hb) _ hh))) rfl (fun _ _ h => by first | exact h | exact h.drop 1 | exact h.drop 2 | exact h.drop 3 | exact h.drop 4 | exact h.drop 5 | exact h.drop 6 | exact h.drop 7 | exact h.drop 8 | exact h.drop 9 | exact h.drop 10 | exact h.drop 11 | exact h.drop 12 | exact h.drop 13) (fun _ _ => ?_)
           refine GE.ol 9 (by as_aux_lemma => kernel_rfl) rfl rfl (og_runs (rv_not rfl)) rfl (fun _ _ h => by first | exact h | exact h.drop 1 | exact h.drop 2 | exact h.drop 3 | exact h.drop 4 | exact h.drop 5 | exact h.drop 6 | exact h.drop 7 | exact h.drop 8 | exact h.drop 9 | exact h.drop 10 | exact h.drop 11 | exact h.drop 12 | exact h.drop 13) (fun _ _ => ?_)
           refine GE.done (by as_aux_lemma => kernel_rfl) ?_
           refine G.thenN ?_
           refine G.cond rfl (fun hc => ?_) (fun hc => ?_)
           · try exact Bool.noConfusion hc
             all_goals
              try replace hc := of_decide_eq_true hc
              try (exfalso; first | contradiction | omega)
              all_goals
               refine G.seq ?_
               refine G.region ?_
               refine G.v (rv_assign rfl) rfl ?_
               refine G.done ?_
               refine G.thenN ?_
               refine G.ret ?_
               refine G.inR ?_
               refine G.thenR ?_
               refine G.thenR ?_
               refine G.inR ?_
               refine G.thenR ?_
               first | exact G.retFV rfl rfl (congrArg Value.bool (by rw [eq_comm, decide_eq_false]; intro hq; have := congrArg List.length hq; omega)) | exact G.retFV rfl rfl (eqS_elt hab.1 hab.2 hc) | exact G.retFV rfl rfl (eqS_all ht (by omega) (by omega))
           · try exact Bool.noConfusion hc
             all_goals
              try replace hc := of_decide_eq_false hc
              try (exfalso; first | contradiction | omega)
              all_goals
               refine G.skip ?_
               refine G.inN ?_
               refine G.thenN ?_
               refine G.region ?_
               refine G.v (rv_move rfl) rfl ?_
               (first | refine G.v (rv_incr rfl rfl (by omega)) rfl ?_ | refine G.v (rv_addB rfl rfl (by omega) (by omega)) rfl ?_)
               refine G.v (rv_assign rfl) rfl ?_
               refine G.done ?_
               first | refine G.backK (k + 1) 0 rfl (.cons rfl (.cons rfl (.nil))) ?_ ?_ ?_
               · exact ⟨rfl, trivial⟩
               · exact ⟨hlt, eqS_next ht hab.1 hab.2 hc⟩
               · omega
       · try exact Bool.noConfusion hc
         all_goals
          try replace hc := of_decide_eq_false hc
          try (exfalso; first | contradiction | omega)
          all_goals
           refine G.exit ?_
           refine G.thenX ?_
           refine G.thenX ?_
           refine G.inX ?_
           refine G.thenN ?_
           refine G.seq ?_
           refine G.region ?_
           refine G.v (rv_assign rfl) rfl ?_
           refine G.done ?_
           refine G.thenN ?_
           refine G.ret ?_
           first | exact G.retFV rfl rfl (congrArg Value.bool (by rw [eq_comm, decide_eq_false]; intro hq; have := congrArg List.length hq; omega)) | exact G.retFV rfl rfl (eqS_elt hab.1 hab.2 hc) | exact G.retFV rfl rfl (eqS_all ht (by omega) (by omega))
end Go.Proofs.YtibkggjbkgdnkaaGreat

/-
  A table of numbers that is marked by numbers that go up.
-/
namespace Go.Proofs.YtibkggjbkgdnkaaGreat
open Go.RowKit
attribute [local irreducible] Go.wpList Go.Code.wp Go.Exit.then Go.Exit.inBlock Go.bodyPost Go.Calls pE pB G RunsV FnV Fn FnM
set_option maxRecDepth 100000
set_option maxHeartbeats 1000000
def mkSS (k : Int) (t : List Int × Value) : List Int × Value := (markG mkI cntI k t.1, t.2)
def cntSS (t : List Int × Value) : Nat := cntG cntI t.1
theorem mkSS_cells (k : Int) (l : List (List Int × Value)) : (markG mkSS cntSS k l).map gcell = l.map gcell := by
  induction l generalizing k with
  | nil => rfl
  | cons x r ih => simp only [markG, List.map_cons, ih]; rfl
theorem mixSS_cells {k : Int} {i : Nat} {l : List (List Int × Value)} {x : List Int × Value} (_ : l[i]? = some x) : (mixG mkSS cntSS k i l).map gcell = (mixG mkSS cntSS k (i + 1) l).map gcell := by
  simp only [mixG, List.map_append, mkSS_cells]
  rw [← List.map_append, ← List.map_append, List.take_append_drop, List.take_append_drop]
theorem markIntSS_any {w0 : World} {v : Value} {l : List (List Int × Value)} {k : Int} (hk : 0 ≤ k) (hb : k + cntG cntSS l ≤ 4611686018427387904) :
    FnM Tryz.prog 25 [v, .int .i64 k] w0 [.grp 3 1 (l.map (sub id)), .row v 44 1 (l.map gcell)] (fun _ : Unit => True) (fun _ => .int .i64 (k + cntG cntSS l))
      (fun _ => [.grp 3 1 ((markG mkSS cntSS k l).map (sub id)), .row v 44 1 ((markG mkSS cntSS k l).map gcell)]) := by
  refine FnM.of (n := 19) Tryz.func25 rfl rfl (fun F => ?_)
  refine G.know (fun w hw => (Rd.owned 1 rfl w hw).le_map) (fun hle => ?_)
  refine G.seq ?_
  refine G.region ?_
  refine G.v (rv_assign rfl) rfl ?_
  refine G.done ?_
  refine G.thenN ?_
  refine G.seq ?_
  refine G.seq ?_
  refine G.region ?_
  refine G.v (rv_assign rfl) rfl ?_
  refine G.done ?_
  refine G.thenN ?_
  refine G.block ?_
  -- loop 0: turned [1, 5], kept [0]
  refine G.loopK (ι := Nat) (ks := [0]) (fun i => [(1, .int .i64 (k + cntG cntSS (l.take i))), (5, .int .i64 i)]) (fun i => [.grp 3 1 ((mixG mkSS cntSS k i l).map (sub id)), .row v 44 1 ((mixG mkSS cntSS k i l).map gcell)]) (fun i => i ≤ l.length) (fun i => l.length - i) 0 (.cons rfl (.nil)) rfl ?_ ?_ ?_
  · exact Nat.zero_le _
  · exact ⟨congrArg (fun z => some (Value.int .i64 z)) (by simp [cntG]), rfl, trivial⟩
  rintro i hi
  have hml : (mixG mkSS cntSS k i l).length = l.length := mix_len
  have hcl : cntG cntSS (l.take (i + 1)) ≤ cntG cntSS l := cnt_le _
  by_cases hlt : i < l.length
  case' pos => (obtain ⟨x, hx⟩ := get_of_lt hlt; have he := get_map (mix_get (mk := mkSS) (cnt := cntSS) (k := k) hx) gcell; have hgi : ((mixG mkSS cntSS k i l).map (sub id))[i]? = some (x.2, x.1.map icell) := (get_mapS (mix_get hx)); have hcn : cntG cntSS (l.take (i + 1)) = cntG cntSS (l.take i) + cntG cntI x.1 := cnt_next hx)
  case' neg => (have hal : cntG cntSS (l.take i) = cntG cntSS l := cnt_all hlt)
  all_goals
   refine G.seq ?_
   refine G.seq ?_
   refine G.region ?_
   refine G.v (rv_move rfl) rfl ?_
   refine G.v (rv_move rfl) rfl ?_
   refine G.v (rv_len rfl (by first | exact Rd.stays (by assumption) | exact Rd.owned 0 rfl | exact Rd.owned 1 rfl)) rfl ?_
   refine G.v (rv_lss rfl rfl) rfl ?_
   refine G.done ?_
   refine G.thenN ?_
   refine G.cond rfl (fun hc => ?_) (fun hc => ?_)
   · try exact Bool.noConfusion hc
     all_goals
      try replace hc := of_decide_eq_true hc
      try simp only [List.length_map, hml] at hc
      try (exfalso; first | contradiction | omega)
      all_goals
       refine G.skip ?_
       refine G.thenN ?_
       refine G.seq ?_
       refine G.block ?_
       refine G.region ?_
       refine G.v (rv_move rfl) rfl ?_
       refine G.v (rv_move rfl) rfl ?_
       (first | refine G.v (rv_indexH rfl rfl (by first | exact Rd.stays (by assumption) | exact Rd.owned 0 rfl | exact Rd.owned 1 rfl) rfl (by first | exact he)) rfl ?_ | refine G.v (rv_index rfl rfl (by first | exact Rd.stays (by assumption) | exact Rd.owned 0 rfl | exact Rd.owned 1 rfl) rfl (by assumption)) rfl ?_)
       refine G.v (rv_loadE rfl (by first | exact Rd.stays (by assumption) | exact Rd.owned 0 rfl | exact Rd.owned 1 rfl) (by first | exact he) rfl) rfl ?_
       refine G.v (rv_move rfl) rfl ?_
       (first | (refine G.op (og_callM0 rfl rfl rfl (FnMF.grp (markIntS_any (by omega) (by omega)) hgi)) rfl ?_; rintro ⟨⟩ _; try dsimp only) | (refine G.op (og_callM1 rfl rfl rfl (FnMF.grp (markIntS_any (by omega) (by omega)) hgi)) rfl ?_; rintro ⟨⟩ _; try dsimp only) | (refine G.op (og_callM2 rfl rfl rfl (FnMF.grp (markIntS_any (by omega) (by omega)) hgi)) rfl ?_; rintro ⟨⟩ _; try dsimp only) | (refine G.op (og_callM3 rfl rfl rfl (FnMF.grp (markIntS_any (by omega) (by omega)) hgi)) rfl ?_; rintro ⟨⟩ _; try dsimp only) | (refine G.op (og_callM4 rfl rfl rfl (FnMF.grp (markIntS_any (by omega) (by omega)) hgi)) rfl ?_; rintro ⟨⟩ _; try dsimp only))
       refine G.v (rv_assign rfl) rfl ?_
       refine G.done ?_
       refine G.inN ?_
       refine G.thenN ?_
       refine G.region ?_
       refine G.v (rv_move rfl) rfl ?_
       (first | refine G.v (rv_incr rfl rfl (by omega)) rfl ?_ | refine G.v (rv_addB rfl rfl (by omega) (by omega)) rfl ?_)
       refine G.v (rv_assign rfl) rfl ?_
       refine G.done ?_
       first | refine G.backK (i + 1) 0 (two_eq (congrArg (fun z => Ch.grp 3 1 z) (mix_map hx)) (congrArg (fun z => Ch.row v 44 1 z) (mixSS_cells hx))) (.cons rfl (.nil)) ?_ ?_ ?_
       · exact ⟨congrArg (fun z => some (Value.int .i64 z)) (by omega), rfl, trivial⟩
       · exact hlt
       · omega
   · try exact Bool.noConfusion hc
     all_goals
      try replace hc := of_decide_eq_false hc
      try simp only [List.length_map, hml] at hc
      try (exfalso; first | contradiction | omega)
      all_goals
       refine G.exit ?_
       refine G.thenX ?_
       refine G.thenX ?_
       refine G.inX ?_
       refine G.thenN ?_
       refine G.seq ?_
       refine G.region ?_
       refine G.v (rv_move rfl) rfl ?_
       refine G.v (rv_assign rfl) rfl ?_
       refine G.done ?_
       refine G.thenN ?_
       refine G.ret ?_
       exact G.retF () trivial rfl rfl (congrArg (Value.int .i64) (by rw [hal])) (fun w hw => by rw [mix_all hlt] at hw; exact hw)
theorem cntSS_same (k : Int) (t : List Int × Value) : cntSS (mkSS k t) = cntSS t := by simp only [cntSS, mkSS, mark_cnt (mk := mkI) (cnt := cntI) (fun _ _ => rfl)]
theorem mkSS_same (k : Int) (t : List Int × Value) : mkSS k (mkSS k t) = mkSS k t := by simp only [mkSS, mark_mark (mk := mkI) (cnt := cntI) (fun _ _ => rfl) (fun _ _ => rfl)]
theorem heldIntSS_any {v : Value} {l : List (List Int × Value)} {k : Int} (w : World) (h : Rd w v 1 (l.map gcell)) (hs : Subs w id l) (hm : markG mkSS cntSS k l = l) (hk : 0 ≤ k) (hb : k + cntG cntSS l ≤ 4611686018427387904) :
    FnV Tryz.prog 26 [v, .int .i64 k] w (.int .i64 (k + cntG cntSS l)) := by
  have hle := h.le_map
  refine FnV.of (n := 21) Tryz.func26 rfl rfl ?_
  refine G.seq ?_
  refine G.region ?_
  refine G.v (rv_assign rfl) rfl ?_
  refine G.done ?_
  refine G.thenN ?_
  refine G.seq ?_
  refine G.seq ?_
  refine G.region ?_
  refine G.v (rv_assign rfl) rfl ?_
  refine G.done ?_
  refine G.thenN ?_
  refine G.block ?_
  -- loop 0: turned [1, 5], kept [0]
  refine G.loopK (ι := Nat) (ks := [0]) (fun i => [(1, .int .i64 (k + cntG cntSS (l.take i))), (5, .int .i64 i)]) (fun _ => []) (fun i => i ≤ l.length) (fun i => l.length - i) 0 (.cons rfl (.nil)) rfl ?_ ?_ ?_
  · exact Nat.zero_le _
  · exact ⟨congrArg (fun z => some (Value.int .i64 z)) (by simp [cntG]), rfl, trivial⟩
  rintro i hi
  have hcl : cntG cntSS (l.take (i + 1)) ≤ cntG cntSS l := cnt_le _
  by_cases hlt : i < l.length
  case' pos => (obtain ⟨x, hx⟩ := get_of_lt hlt; have he := get_map hx gcell; have hcn : cntG cntSS (l.take (i + 1)) = cntG cntSS (l.take i) + cntG cntI x.1 := cnt_next hx; have hq := held_at hm hx; have hql : markG mkI cntI (k + cntG cntSS (l.take i)) x.1 = x.1 := (congrArg (fun t => t.1) hq).symm)
  case' neg => (have hal : cntG cntSS (l.take i) = cntG cntSS l := cnt_all hlt)
  all_goals
   refine G.seq ?_
   refine G.seq ?_
   refine G.region ?_
   refine G.v (rv_move rfl) rfl ?_
   refine G.v (rv_move rfl) rfl ?_
   refine G.v (rv_len rfl (by first | exact Rd.stays (by assumption))) rfl ?_
   refine G.v (rv_lss rfl rfl) rfl ?_
   refine G.done ?_
   refine G.thenN ?_
   refine G.cond rfl (fun hc => ?_) (fun hc => ?_)
   · try exact Bool.noConfusion hc
     all_goals
      try replace hc := of_decide_eq_true hc
      try simp only [List.length_map] at hc
      try (exfalso; first | contradiction | omega)
      all_goals
       refine G.skip ?_
       refine G.thenN ?_
       refine G.seq ?_
       refine G.block ?_
       refine G.seq ?_
       refine G.region ?_
       refine G.v (rv_move rfl) rfl ?_
       refine G.v (rv_move rfl) rfl ?_
       (first | refine G.v (rv_indexH rfl rfl (by first | exact Rd.stays (by assumption)) rfl (by first | exact he)) rfl ?_ | refine G.v (rv_index rfl rfl (by first | exact Rd.stays (by assumption)) rfl (by assumption)) rfl ?_)
       refine G.v (rv_loadE rfl (by first | exact Rd.stays (by assumption)) (by first | exact he) rfl) rfl ?_
       refine G.v (rv_move rfl) rfl ?_
       refine G.op (og_callV rfl rfl (fun w hh => heldIntS_any (l := x.1) w (Rd.stays (hs.at hx) _ hh) hql (by omega) (by omega))) rfl (fun _ _ => ?_)
       refine G.v (rv_assign rfl) rfl ?_
       refine G.done ?_
       refine G.thenN ?_
       refine G.seq ?_
       refine G.region ?_
       refine G.v (rv_move rfl) rfl ?_
       refine G.v (rv_lss rfl rfl) rfl ?_
       refine G.done ?_
       refine G.thenN ?_
       refine G.cond rfl (fun hc => ?_) (fun hc => ?_)
       · try exact Bool.noConfusion hc
         all_goals
          try replace hc := of_decide_eq_true hc
          try simp only [List.length_map] at hc
          try (exfalso; first | contradiction | omega)
          all_goals
           refine G.seq ?_
           refine G.region ?_
           refine G.v (rv_assign rfl) rfl ?_
           refine G.done ?_
           refine G.thenN ?_
           refine G.ret ?_
           refine G.inR ?_
           refine G.thenR ?_
           refine G.thenR ?_
           refine G.inR ?_
           refine G.thenR ?_
           exact G.retFV rfl rfl (congrArg (Value.int .i64) (by rw [hal]))
       · try exact Bool.noConfusion hc
         all_goals
          try replace hc := of_decide_eq_false hc
          try simp only [List.length_map] at hc
          try (exfalso; first | contradiction | omega)
          all_goals
           refine G.skip ?_
           refine G.inN ?_
           refine G.thenN ?_
           refine G.region ?_
           refine G.v (rv_move rfl) rfl ?_
           (first | refine G.v (rv_incr rfl rfl (by omega)) rfl ?_ | refine G.v (rv_addB rfl rfl (by omega) (by omega)) rfl ?_)
           refine G.v (rv_assign rfl) rfl ?_
           refine G.done ?_
           first | refine G.backK (i + 1) 0 rfl (.cons rfl (.nil)) ?_ ?_ ?_
           · exact ⟨congrArg (fun z => some (Value.int .i64 z)) (by omega), rfl, trivial⟩
           · exact hlt
           · omega
   · try exact Bool.noConfusion hc
     all_goals
      try replace hc := of_decide_eq_false hc
      try simp only [List.length_map] at hc
      try (exfalso; first | contradiction | omega)
      all_goals
       refine G.exit ?_
       refine G.thenX ?_
       refine G.thenX ?_
       refine G.inX ?_
       refine G.thenN ?_
       refine G.seq ?_
       refine G.region ?_
       refine G.v (rv_move rfl) rfl ?_
       refine G.v (rv_assign rfl) rfl ?_
       refine G.done ?_
       refine G.thenN ?_
       refine G.ret ?_
       exact G.retFV rfl rfl (congrArg (Value.int .i64) (by rw [hal]))
theorem heldIntSS_marked {v : Value} {l : List (List Int × Value)} {k : Int} (w : World) (h : Rd w v 1 ((markG mkSS cntSS k l).map gcell)) (hs : Subs w id (markG mkSS cntSS k l)) (hk : 0 ≤ k) (hb : k + cntG cntSS l ≤ 4611686018427387904) :
    FnV Tryz.prog 26 [v, .int .i64 k] w (.int .i64 (k + cntG cntSS l)) := by
  have hc := mark_cnt (mk := mkSS) (cnt := cntSS) cntSS_same l k
  have := heldIntSS_any w h hs (mark_mark (mk := mkSS) (cnt := cntSS) cntSS_same mkSS_same l k) hk (by rw [hc]; exact hb)
  rwa [hc] at this
end Go.Proofs.YtibkggjbkgdnkaaGreat

/-
  Tables of groups: what is put where. No program is in sight here.
-/
namespace Go.Proofs.YtibkggjbkgdnkaaGreat
open Go.RowKit
/-- x is put into the first list that p holds of, or into a list of its own. -/
def putM (p : List Int → Bool) : List (List Int) → Int → List (List Int)
  | [], x => [[x]]
  | g :: r, x => if p g then (g ++ [x]) :: r else g :: putM p r x
theorem put_no {p : List Int → Bool} {x : Int} : ∀ {l : List (List Int)}, l.any p = false → putM p l x = l ++ [[x]]
  | [], _ => rfl
  | g :: r, h => by
    simp only [List.any_cons, Bool.or_eq_false_iff] at h
    rw [putM, h.1, put_no h.2]; simp
theorem put_at {p : List Int → Bool} {x : Int} : ∀ {l : List (List Int)} {k : Nat} {b : List Int}, (l.take k).any p = false → l[k]? = some b → p b = true → putM p l x = l.set k (b ++ [x])
  | [], k, b, _, h, _ => by simp at h
  | g :: r, 0, b, _, h, hb => by
    simp at h; subst h; rw [putM, if_pos hb]; rfl
  | g :: r, k + 1, b, h0, h, hb => by
    simp only [List.take_succ_cons, List.any_cons, Bool.or_eq_false_iff] at h0
    simp only [List.getElem?_cons_succ] at h
    rw [putM, h0.1, put_at h0.2 h hb]; simp
theorem idx_cases {α : Type} (p : α → Bool) : ∀ l : List α, (idxM p l = -1 ∧ l.any p = false) ∨ ∃ (k : Nat) (b : α), idxM p l = (k : Int) ∧ l[k]? = some b ∧ p b = true ∧ (l.take k).any p = false
  | [] => .inl ⟨rfl, rfl⟩
  | x :: r => by
    by_cases hx : p x = true
    · exact .inr ⟨0, x, by rw [idxM, if_pos hx]; rfl, rfl, hx, rfl⟩
    · have hx2 : p x = false := by simpa using hx
      rcases idx_cases p r with ⟨h1, h2⟩ | ⟨k, b, h1, h2, h3, h4⟩
      · exact .inl ⟨by rw [idxM, if_neg hx, if_pos (by omega)], by rw [List.any_cons, hx2, h2]; rfl⟩
      · exact .inr ⟨k + 1, b, by rw [idxM, if_neg hx, if_neg (by omega), h1]; omega, h2, h3, by rw [List.take_succ_cons, List.any_cons, hx2, h4]; rfl⟩
theorem idx_map {α β : Type} (f : α → β) (p : β → Bool) : ∀ l : List α, idxM p (l.map f) = idxM (fun a => p (f a)) l
  | [] => rfl
  | x :: r => by rw [List.map_cons, idxM, idxM, idx_map f p r]
/-- The first place from i on that p holds of. -/
def idxFrom {α : Type} (p : α → Bool) (l : List α) (i : Nat) : Int := if idxM p (l.drop i) < 0 then -1 else idxM p (l.drop i) + i
theorem from_end {α : Type} {p : α → Bool} {l : List α} : idxFrom p l l.length = -1 := by
  rw [idxFrom, List.drop_length]; rfl
theorem from_yes {α : Type} {p : α → Bool} {l : List α} {i : Nat} {b : α} (hb : l[i]? = some b) (h : p b = true) : (i : Int) = idxFrom p l i := by
  obtain ⟨h1, rfl⟩ := List.getElem?_eq_some_iff.1 hb
  rw [idxFrom, List.drop_eq_getElem_cons h1, idxM, if_pos h]; simp
theorem from_no {α : Type} {p : α → Bool} {l : List α} {i : Nat} {b : α} (hb : l[i]? = some b) (h : p b = false) : idxFrom p l (i + 1) = idxFrom p l i := by
  obtain ⟨h1, rfl⟩ := List.getElem?_eq_some_iff.1 hb
  have e : idxM p (l.drop i) = if idxM p (l.drop (i + 1)) < 0 then -1 else idxM p (l.drop (i + 1)) + 1 := by
    rw [List.drop_eq_getElem_cons h1, idxM, if_neg (by rw [h]; decide)]
  unfold idxFrom
  rw [e]
  have hg := idx_ge p (l.drop (i + 1))
  split <;> split <;> omega
theorem from_zero {α : Type} {p : α → Bool} {l : List α} : idxFrom p l 0 = idxM p l := by
  rw [idxFrom, List.drop_zero]
  have := idx_ge p l
  split
  · omega
  · simp
def putAll (p : List Int → Int → Bool) (l : List Int) : List (List Int) := l.foldl (fun out x => putM (fun g => p g x) out x) []
theorem putAll_next {p : List Int → Int → Bool} {l : List Int} {k : Nat} {x : Int} (h : l[k]? = some x) : putAll p (l.take (k + 1)) = putM (fun g => p g x) (putAll p (l.take k)) x := foldl_take_succ h _ []
theorem put_sum (p : List Int → Bool) (x : Int) : ∀ l : List (List Int), ((putM p l x).map List.length).sum = (l.map List.length).sum + 1
  | [] => rfl
  | g :: r => by
    have := put_sum p x r
    rw [putM]; split
    · simp only [List.map_cons, List.sum_cons, List.length_append, List.length_singleton]; omega
    · simp only [List.map_cons, List.sum_cons]; omega
theorem put_lenle (p : List Int → Bool) (x : Int) : ∀ l : List (List Int), (putM p l x).length ≤ l.length + 1
  | [] => Nat.le_refl _
  | g :: r => by
    have := put_lenle p x r
    rw [putM]; split
    · simp only [List.length_cons]; omega
    · simp only [List.length_cons]; omega
theorem putAll_sumG (p : List Int → Int → Bool) : ∀ (l : List Int) (out : List (List Int)), ((l.foldl (fun out x => putM (fun g => p g x) out x) out).map List.length).sum = (out.map List.length).sum + l.length
  | [], out => by simp
  | x :: r, out => by
    rw [List.foldl_cons, putAll_sumG p r, put_sum, List.length_cons]; omega
theorem putAll_lenG (p : List Int → Int → Bool) : ∀ (l : List Int) (out : List (List Int)), (l.foldl (fun out x => putM (fun g => p g x) out x) out).length ≤ out.length + l.length
  | [], out => by simp
  | x :: r, out => by
    have h1 := putAll_lenG p r (putM (fun g => p g x) out x)
    have h2 := put_lenle (fun g => p g x) x out
    rw [List.foldl_cons, List.length_cons]; omega
theorem putAll_sum (p : List Int → Int → Bool) (l : List Int) : ((putAll p l).map List.length).sum = l.length := by rw [putAll, putAll_sumG]; simp
theorem putAll_len (p : List Int → Int → Bool) (l : List Int) : (putAll p l).length ≤ l.length := by have := putAll_lenG p l []; simpa [putAll] using this
theorem len_le_sum : ∀ {l : List (List Int)} {g : List Int}, g ∈ l → g.length ≤ (l.map List.length).sum
  | [], g, h => by simp at h
  | a :: r, g, h => by
    rw [List.map_cons, List.sum_cons]
    rcases List.mem_cons.1 h with rfl | h
    · omega
    · have := len_le_sum h; omega
theorem putAll_at {p : List Int → Int → Bool} {l : List Int} {q : Nat} {g : List Int} (h : (putAll p l)[q]? = some g) : g.length ≤ l.length := by
  have := len_le_sum (List.mem_of_getElem? h); rwa [putAll_sum] at this
/-- The groups of kinds: each kind is put into the first group that it may lie beside. -/
def groupsM (ps : List PairM) (l : List Int) : List (List Int) := putAll (fun g x => joinsM ps g x) l
/-- The kinds that are there, as numbers. -/
def presI (r : ReqM) : List Int := (presM r).map (fun n : Nat => (n : Int))
theorem presI_cells (r : ReqM) : (presM r).map ncell = (presI r).map icell := by rw [presI, List.map_map]; rfl
theorem presI_asc (r : ReqM) : (presI r).Pairwise (· < ·) := by
  rw [presI, presM]
  split
  · rw [List.pairwise_map]
    exact (List.pairwise_lt_range.sublist (List.filter_sublist)).imp (fun h => by omega)
  · exact List.Pairwise.nil
theorem presI_len (r : ReqM) : (presI r).length ≤ 4 := by
  rw [presI, List.length_map, presM]
  split
  · exact pres_len r 4
  · simp
theorem presI_in {r : ReqM} {x : Int} (h : x ∈ presI r) : 0 ≤ x ∧ x ≤ 3 := by
  rw [presI, presM] at h
  split at h
  · obtain ⟨n, hn, rfl⟩ := List.mem_map.1 h
    have := List.mem_range.1 (List.mem_filter.1 hn).1
    omega
  · simp at h
theorem dd_sorted {l : List Int} (h : l.Pairwise (· < ·)) : ddM (sortM l) = l :=
  asc_uniq (dd_asc (sortM_srt _)) h (fun x => by rw [dd_mem, (sortM_perm _).mem_iff])
/-- The kinds below n that are in a list. -/
def below (l : List Int) (n : Nat) : List Int := ((List.range n).map (fun n : Nat => (n : Int))).filter (hasM l)
theorem below_next {l : List Int} {n : Nat} : below l (n + 1) = below l n ++ (if hasM l (n : Int) then [(n : Int)] else []) := by
  rw [below, List.range_succ, List.map_append, List.filter_append]
  cases h : hasM l (n : Int) <;> simp [below, h]
theorem hasM_iff {l : List Int} {x : Int} : hasM l x = true ↔ x ∈ l := by simp [hasM]
theorem below_all {l : List Int} (h : l.Pairwise (· < ·)) (hb : ∀ x ∈ l, 0 ≤ x ∧ x ≤ 3) : below l 4 = l := by
  refine asc_uniq ?_ h (fun x => ?_)
  · refine List.Pairwise.sublist List.filter_sublist ?_
    rw [List.pairwise_map]
    exact List.pairwise_lt_range.imp (fun h => by omega)
  · simp only [below, List.mem_filter, List.mem_map, List.mem_range, hasM_iff]
    constructor
    · rintro ⟨_, h2⟩; exact h2
    · intro hx
      have := hb x hx
      exact ⟨⟨x.toNat, by omega, by omega⟩, hx⟩
theorem below_len (l : List Int) (n : Nat) : (below l n).length ≤ n := by
  have := List.length_filter_le (hasM l) ((List.range n).map (fun n : Nat => (n : Int)))
  rwa [List.length_map, List.length_range] at this
theorem putAll_snoc {p : List Int → Int → Bool} {l : List Int} {x : Int} : putAll p (l ++ [x]) = putM (fun g => p g x) (putAll p l) x := by
  rw [putAll, List.foldl_append]; rfl
end Go.Proofs.YtibkggjbkgdnkaaGreat

/-
  Rows that are pushed into groups.
-/
namespace Go.Proofs.YtibkggjbkgdnkaaGreat
open Go.RowKit
theorem G.pushRow {n : Nat} {w0 : World} {fr : Fr} {H F : List Ch} {t : TypeId} {s : Nat} {v : Value} {es : List (List Value)} {rs : List (Value × List (List Value))} (rs' : List (Value × List (List Value))) {K : Act → World → Prop} (e : rs ++ [(v, es)] = rs') (hH : H = .row v t s es :: .grp t s rs :: F) (h : G n w0 fr (.grp t s rs' :: F) K) : G n w0 fr H K :=
  G.heap (fun w hh => by subst e hH; exact hh.push) h
theorem G.keep2 {n : Nat} {w0 : World} {fr : Fr} {H : List Ch} (m : Nat) {c1 c2 : Ch} {J : List Ch} {K : Act → World → Prop} (hH : H = c1 :: c2 :: J) (h : G n w0 fr (c1 :: c2 :: J.drop m) K) : G n w0 fr H K := G.heap (fun w hh => by subst hH; exact hh.sublist (List.Sublist.cons_cons _ (List.Sublist.cons_cons _ (List.drop_sublist m J)))) h
theorem nil_or_snoc {α : Type} (l : List α) : l = [] ∨ ∃ tp t, l = tp ++ [t] := by
  rcases List.eq_nil_or_concat l with h | ⟨a, b, h⟩
  · exact .inl h
  · exact .inr ⟨a, b, by rw [h, List.concat_eq_append]⟩
theorem G.keep1 {n : Nat} {w0 : World} {fr : Fr} {H : List Ch} (m : Nat) {c1 : Ch} {J : List Ch} {K : Act → World → Prop} (hH : H = c1 :: J) (h : G n w0 fr (c1 :: J.drop m) K) : G n w0 fr H K := G.heap (fun w hh => by subst hH; exact hh.sublist (List.Sublist.cons_cons _ (List.drop_sublist m J))) h
end Go.Proofs.YtibkggjbkgdnkaaGreat

/-
  What no packing is below: the program's way.
-/
namespace Go.Proofs.YtibkggjbkgdnkaaGreat
open Go.RowKit
section
variable {P : Program} {n : Nat} {w0 : World} {fr : Fr} {H : List Ch} {x y : Operand} {t t' : TypeId} {p q : Int}
theorem rv_quoB (hx : opv fr x = some (.int .i64 p)) (hy : opv fr y = some (.int .i64 q)) (h0 : 0 ≤ p) (h1 : p ≤ 4611686018427387904) (h2 : 1 ≤ q) : RunsV P n w0 fr H (.binOp .quo t x y t') (.int .i64 (p.tdiv q)) := by
  have := rv_quo (P := P) (n := n) (w0 := w0) (H := H) (t := t) (t' := t') hx hy (by omega)
  have e1 : 0 ≤ p.tdiv q := Int.tdiv_nonneg h0 (by omega)
  have e2 : p.tdiv q ≤ p := by
    rw [Int.tdiv_eq_ediv_of_nonneg h0]; exact Int.ediv_le_self _ h0
  rwa [wrap64_id (by omega) (by omega)] at this
theorem rv_max3 {x y z : Operand} {ts : Array TypeId} {k k' k2 : IntKind} {p q s : Int} (hx : opv fr x = some (.int k p)) (hy : opv fr y = some (.int k' q)) (hz : opv fr z = some (.int k2 s)) :
    RunsV P n w0 fr H (.call ⟨.builtin .max, #[x, y, z], ts⟩) (.int k (max (max p q) s)) := fun a w hr hh _ _ _ _ _ => by
  have e : max p q = if q > p then q else p := by split <;> omega
  have e2 : max (max p q) s = if s > max p q then s else max p q := by split <;> omega
  simp only [execOp, resolve, invoke, builtin, List.map_toArray, List.map_cons, List.map_nil, hr.opv hx, hr.opv hy, hr.opv hz, Builtin.max_, List.foldlM_cons, List.foldlM_nil, Builtin.max2, Sem.run_bind, Sem.run_pure, Result.andThen_ok, ← e, ← e2]
end
attribute [local irreducible] Go.wpList Go.Code.wp Go.Exit.then Go.Exit.inBlock Go.bodyPost Go.Calls pE pB G RunsV FnV Fn FnM
set_option maxRecDepth 100000
set_option maxHeartbeats 4000000
def vI (x : ItemM) : Int := volM x.w x.h x.d
theorem vol_in {w h d : Int} (hw : 1 ≤ w ∧ w ≤ 2000) (hh : 1 ≤ h ∧ h ≤ 2000) (hd : 1 ≤ d ∧ d ≤ 2000) : 1 ≤ volM w h d ∧ volM w h d ≤ 8000000000 := by
  have e : (inB w 0 2000 && inB h 0 2000 && inB d 0 2000) = true := by simp only [inB, Bool.and_eq_true, decide_eq_true_eq]; omega
  have a1 : 1 ≤ w * h := by have := Int.mul_le_mul hw.1 hh.1 (by omega) (by omega); omega
  have a2 : w * h ≤ 4000000 := by have := Int.mul_le_mul hw.2 hh.2 (by omega) (by omega); omega
  have b1 : 1 ≤ w * h * d := by have := Int.mul_le_mul a1 hd.1 (by omega) (by omega); omega
  have b2 : w * h * d ≤ 8000000000 := by have := Int.mul_le_mul a2 hd.2 (by omega) (by omega); omega
  have e2 : IntKind.i64.wrap (w * h) = w * h := wrap64_id (by omega) (by omega)
  rw [volM, if_pos e, e2, wrap64_id (by omega) (by omega)]
  exact ⟨b1, b2⟩
theorem item_vol {x : ItemM} (h : itemOkM x = true) : 1 ≤ vI x ∧ vI x ≤ 8000000000 := by
  simp only [itemOkM, Bool.and_eq_true, inB, decide_eq_true_eq] at h
  exact vol_in h.1.1.1.1.1.2 h.1.1.1.1.2 h.1.1.1.2
theorem type_vol {x : TypeM} (h : typeOkM x = true) : 1 ≤ volM x.w x.h x.d ∧ volM x.w x.h x.d ≤ 8000000000 := by
  simp only [typeOkM, Bool.and_eq_true, inB, decide_eq_true_eq] at h
  exact vol_in h.1.1.1.1.1.2 h.1.1.1.1.2 h.1.1.1.2
def mst (r : ReqM) : TypeM := (typeAt r r.master).1
theorem mst_ok {r : ReqM} (h : classM r = 0) : typeOkM (mst r) = true := by
  have hb := cls_sound h
  have hn : namesM r = true := by
    cases hn : namesM r with
    | true => rfl
    | false => rw [classM, if_neg (by simp [hb]), if_pos hn] at h; omega
  simp only [namesM, Bool.and_eq_true] at hn
  have h2 := hn.2
  rw [mst]
  rw [typeAt] at h2 ⊢
  cases hf : typeByM r r.master with
  | none => rw [hf] at h2; cases h2
  | some t => exact bounds_types hb t (List.mem_of_find?_eq_some hf)
def vOf (r : ReqM) (u : Int) : Int := match itemAt r u with | some x => vI x | none => 0
def volUS (r : ReqM) (us : List Int) : Int := (us.map (vOf r)).sum
theorem vOf_in (r : ReqM) (u : Int) : 0 ≤ vOf r u ∧ vOf r u ≤ 8000000000 := by
  unfold vOf
  cases h : itemAt r u with
  | none => simp
  | some x => have := item_vol (itemAt_ok h); dsimp only; omega
theorem volUS_take {r : ReqM} {us : List Int} {k : Nat} {u : Int} (hb : us[k]? = some u) : volUS r (us.take (k + 1)) = volUS r (us.take k) + vOf r u := by
  simp [volUS, List.take_add_one, hb, List.sum_append]
theorem volUS_in (r : ReqM) : ∀ us : List Int, 0 ≤ volUS r us ∧ volUS r us ≤ 8000000000 * us.length
  | [] => by simp [volUS]
  | u :: us => by
    have h1 := volUS_in r us
    have h2 := vOf_in r u
    simp only [volUS, List.map_cons, List.sum_cons, List.length_cons] at *
    omega
def vSum (l : List ItemM) : Int := (l.map vI).sum
theorem vSum_take {l : List ItemM} {k : Nat} {b : ItemM} (h : l[k]? = some b) : vSum (l.take (k + 1)) = vSum (l.take k) + vI b := by
  simp [vSum, List.take_add_one, h, List.sum_append]
theorem vSum_items (r : ReqM) : ∀ us : List Int, vSum (itemsM r us) = volUS r us
  | [] => rfl
  | u :: us => by
    have h1 := vSum_items r us
    simp only [itemsM, volUS, vSum, List.filterMap_cons, List.map_cons, List.sum_cons] at *
    cases h : itemAt r u with
    | none => simp only [vOf, h]; omega
    | some x => simp only [vOf, h, List.map_cons, List.sum_cons]; omega
theorem vSum_in : ∀ {l : List ItemM}, (∀ x ∈ l, itemOkM x = true) → 0 ≤ vSum l ∧ vSum l ≤ 8000000000 * l.length
  | [], _ => by simp [vSum]
  | x :: l, h => by
    have h1 := vSum_in (fun y hy => h y (List.mem_cons_of_mem _ hy))
    have h2 := item_vol (h x (List.mem_cons_self))
    simp only [vSum, List.map_cons, List.sum_cons, List.length_cons] at *
    omega
def upByM (a b : Int) : Int := (a + b - 1).tdiv b
def lowVolM (r : ReqM) (us : List Int) : Int := if classM r = 0 then upByM (volUS r us) (volM (mst r).w (mst r).h (mst r).d) else 0
def lowGramM (r : ReqM) (us : List Int) : Int := if classM r = 0 then upByM (gramM r us) (mst r).g else 0
def wideP (r : ReqM) (x : ItemM) : Bool := decide (2 * vI x > volM (mst r).w (mst r).h (mst r).d)
def heavyP (r : ReqM) (x : ItemM) : Bool := decide (2 * x.g > (mst r).g)
def greatM (r : ReqM) (us : List Int) : Int := if classM r = 0 then max ((itemsM r us).countP (wideP r) : Int) ((itemsM r us).countP (heavyP r) : Int) else 0
def lowM (r : ReqM) (us : List Int) : Int := max (max (lowVolM r us) (lowGramM r us)) (greatM r us)
theorem cntP_yes {p : ItemM → Bool} {l : List ItemM} {k : Nat} {b : ItemM} (hb : l[k]? = some b) (h : p b = true) : ((l.take (k + 1)).countP p : Int) = (l.take k).countP p + 1 := by
  simp [List.take_add_one, hb, List.countP_append, h]
theorem cntP_no {p : ItemM → Bool} {l : List ItemM} {k : Nat} {b : ItemM} (hb : l[k]? = some b) (h : p b = false) : ((l.take (k + 1)).countP p : Int) = (l.take k).countP p := by
  simp [List.take_add_one, hb, List.countP_append, h]
theorem upBy_any (a b : Int) (w : World) (h0 : 0 ≤ a) (h1 : a ≤ 1152921504606846976) (h2 : 1 ≤ b) (h3 : b ≤ 8000000000) : FnV Tryz.prog 141 [.int .i64 a, .int .i64 b] w (.int .i64 (upByM a b)) := by
  refine FnV.of (n := 11) Tryz.func141 rfl rfl ?_
  refine G.seq ?_
  refine G.region ?_
  refine G.v (rv_assign rfl) rfl ?_
  refine G.done ?_
  refine G.thenN ?_
  refine G.seq ?_
  refine G.region ?_
  refine G.v (rv_move rfl) rfl ?_
  refine G.v (rv_move rfl) rfl ?_
  (refine G.v (rv_addB rfl rfl (by omega) (by omega)) rfl ?_)
  (refine G.v (rv_subB rfl rfl (by omega) (by omega)) rfl ?_)
  refine G.v (rv_move rfl) rfl ?_
  refine G.v (rv_quoB rfl rfl (by omega) (by omega) h2) rfl ?_
  refine G.v (rv_assign rfl) rfl ?_
  refine G.done ?_
  refine G.thenN ?_
  refine G.ret ?_
  exact G.retFV rfl rfl rfl
theorem l8Up_any (a b : Int) (w : World) (h0 : 0 ≤ a) (h1 : a ≤ 1152921504606846976) (h2 : 1 ≤ b) (h3 : b ≤ 8000000000) : FnV Tryz.prog 190 [.int .i64 a, .int .i64 b] w (.int .i64 (upByM a b)) := by
  refine FnV.of (n := 11) Tryz.func190 rfl rfl ?_
  refine G.seq ?_
  refine G.region ?_
  refine G.v (rv_assign rfl) rfl ?_
  refine G.done ?_
  refine G.thenN ?_
  refine G.seq ?_
  refine G.region ?_
  refine G.v (rv_move rfl) rfl ?_
  refine G.v (rv_move rfl) rfl ?_
  (refine G.v (rv_addB rfl rfl (by omega) (by omega)) rfl ?_)
  (refine G.v (rv_subB rfl rfl (by omega) (by omega)) rfl ?_)
  refine G.v (rv_move rfl) rfl ?_
  refine G.v (rv_quoB rfl rfl (by omega) (by omega) h2) rfl ?_
  refine G.v (rv_assign rfl) rfl ?_
  refine G.done ?_
  refine G.thenN ?_
  refine G.ret ?_
  exact G.retFV rfl rfl rfl
theorem masterRoom_any {r : ReqM} {pv tv iv : Value} (w : World) (h2 : Rd w tv 7 (r.types.map TypeM.cells)) : FnV Tryz.prog 140 [.agg (r.cells pv tv iv).toArray] w (.tuple #[.int .i64 (volM (mst r).w (mst r).h (mst r).d), .int .i64 (mst r).g]) := by
  refine FnV.of (n := 20) Tryz.func140 rfl rfl ?_
  refine G.seq ?_
  refine G.region ?_
  refine G.op (og_box rfl rfl) rfl (fun bk1 _ => ?_)
  refine G.v (rv_assign rfl) rfl ?_
  refine G.v (rv_assign rfl) rfl ?_
  refine G.done ?_
  refine G.thenN ?_
  refine G.seq ?_
  refine G.region ?_
  (refine G.v (rv_loadW 0 rfl rfl rfl) rfl ?_)
  refine G.op (og_callV rfl rfl (fun w hh => masterOf_any (r := r) w (Rd.stays h2 _ hh))) rfl (fun _ _ => ?_)
  refine G.v (rv_move rfl) rfl ?_
  refine G.v (rv_extract rfl rfl) rfl ?_
  refine G.v (rv_extract rfl rfl) rfl ?_
  refine G.op (og_alloc) rfl (fun bk4 _ => ?_)
  (refine G.op0 (og_st0 rfl rfl rfl rfl rfl rfl (.zero (.cons (.cons (.cons (.cons (.cons (.cons (.cons .nil))))))))) (fun _ _ => ?_))
  refine G.v (rv_assign rfl) rfl ?_
  refine G.done ?_
  refine G.thenN ?_
  refine G.seq ?_
  refine G.drawL [10] ?_
  (refine GE.q 0 rfl (by as_aux_lemma => kernel_rfl) rfl (qg_runs (rv_field rfl)) rfl ?_)
  (refine GE.q 1 rfl (by as_aux_lemma => kernel_rfl) rfl (qg_runs (rv_load1 0 rfl rfl rfl)) rfl ?_)
  (refine GE.q 2 rfl (by as_aux_lemma => kernel_rfl) rfl (qg_runs (rv_field rfl)) rfl ?_)
  (refine GE.q 3 rfl (by as_aux_lemma => kernel_rfl) rfl (qg_runs (rv_load1 0 rfl rfl rfl)) rfl ?_)
  (refine GE.q 4 rfl (by as_aux_lemma => kernel_rfl) rfl (qg_runs (rv_field rfl)) rfl ?_)
  (refine GE.q 5 rfl (by as_aux_lemma => kernel_rfl) rfl (qg_runs (rv_load1 0 rfl rfl rfl)) rfl ?_)
  refine GE.q 6 rfl (by as_aux_lemma => kernel_rfl) rfl (qg_call rfl rfl (fun w _ => volume_any _ _ _ w)) rfl ?_
  (refine GE.q 7 rfl (by as_aux_lemma => kernel_rfl) rfl (qg_runs (rv_field rfl)) rfl ?_)
  (refine GE.q 8 rfl (by as_aux_lemma => kernel_rfl) rfl (qg_runs (rv_load1 0 rfl rfl rfl)) rfl ?_)
  refine GE.ol 9 (by as_aux_lemma => kernel_rfl) rfl rfl (og_runs (rv_assign rfl)) rfl (fun _ _ h => by exact h) (fun _ _ => ?_)
  refine GE.t 10 (by as_aux_lemma => kernel_rfl) rfl rfl rfl (og_runs (rv_assign rfl)) rfl (fun _ _ => ?_)
  refine GE.done (by as_aux_lemma => kernel_rfl) ?_
  refine G.thenN ?_
  refine G.ret ?_
  exact G.retVL rfl (.cons (.tmp rfl) (.cons (.tmp rfl) .nil)) rfl
theorem volumeOf_any {r : ReqM} {pv tv iv uv : Value} {us : List Int} (w : World) (h : Rd w pv 2 (r.pairs.map PairM.cells)) (h2 : Rd w tv 7 (r.types.map TypeM.cells)) (h3 : Rd w iv 7 (r.items.map ItemM.cells)) (h4 : Rd w uv 1 (us.map icell)) (hul : us.length ≤ 1048576) :
    FnV Tryz.prog 71 [.agg (r.cells pv tv iv).toArray, uv] w (.int .i64 (volUS r us)) := by
  have hil := items_len r us
  have hil2 : ((itemsM r us).map ItemM.cells).length = (itemsM r us).length := by simp
  refine FnV.of (n := 27) Tryz.func71 rfl rfl ?_
  refine G.seq ?_
  refine G.region ?_
  refine G.op (og_box rfl rfl) rfl (fun bk2 _ => ?_)
  refine G.v (rv_assign rfl) rfl ?_
  refine G.done ?_
  refine G.thenN ?_
  refine G.seq ?_
  refine G.region ?_
  refine G.v (rv_assign rfl) rfl ?_
  refine G.done ?_
  refine G.thenN ?_
  refine G.seq ?_
  refine G.seq ?_
  refine G.region ?_
  (refine G.v (rv_loadW 0 rfl rfl rfl) rfl ?_)
  refine G.v (rv_move rfl) rfl ?_
  (refine G.op (og_callF1 rfl rfl (fun w hh => itemsOf_any (r := r) (us := us) w (Rd.stays h _ hh) (Rd.stays h2 _ hh) (Rd.stays h3 _ hh) (Rd.stays h4 _ hh) hul)) rfl ?_; rintro vs hvs; try dsimp only)
  refine G.v (rv_len rfl (by exact Rd.owned 0 rfl)) rfl ?_
  refine G.v (rv_move rfl) rfl ?_
  refine G.done ?_
  refine G.thenN ?_
  refine G.block ?_
  -- loop 0: turned [5, 12], kept [10, 11]
  refine G.loopK (ι := Nat) (ks := [10, 11]) (fun k => [(5, .int .i64 (vSum ((itemsM r us).take k))), (12, .int .i64 k)]) (fun _ => []) (fun k => k ≤ (itemsM r us).length) (fun k => (itemsM r us).length - k) 0 (.cons rfl (.cons rfl (.nil))) rfl ?_ ?_ ?_
  · exact Nat.zero_le _
  · exact ⟨rfl, rfl, trivial⟩
  rintro k hk
  have hgi := vSum_in (l := (itemsM r us).take k) (fun x hx => items_ok x (List.mem_of_mem_take hx))
  rw [List.length_take, Nat.min_eq_left hk] at hgi
  by_cases hlt : k < (itemsM r us).length
  case' pos => (obtain ⟨b, hb⟩ := get_of_lt hlt; have he := get_map hb ItemM.cells; have hbg : 1 ≤ volM b.w b.h b.d ∧ volM b.w b.h b.d ≤ 8000000000 := item_vol (items_ok b (List.mem_of_getElem? hb)); have hgt := vSum_take hb)
  all_goals
   refine G.seq ?_
   refine G.region ?_
   refine G.v (rv_lss rfl rfl) rfl ?_
   refine G.done ?_
   refine G.thenN ?_
   refine G.seq ?_
   refine G.cond rfl (fun hc => ?_) (fun hc => ?_)
   · try exact Bool.noConfusion hc
     all_goals
      try replace hc := of_decide_eq_true hc
      try (exfalso; omega)
      all_goals
       refine G.skip ?_
       refine G.thenN ?_
       refine G.seq ?_
       refine G.block ?_
       refine G.seq ?_
       refine G.region ?_
       (refine G.v (rv_indexH rfl rfl (by exact Rd.owned 0 rfl) rfl (by assumption)) rfl ?_)
       (refine G.v (rv_loadEW rfl (by exact Rd.owned 0 rfl) (by assumption) rfl) rfl ?_)
       refine G.op (og_alloc) rfl (fun bk7 _ => ?_)
       (refine G.op0 (og_st0 rfl rfl rfl rfl rfl rfl (.zero (.cons (.cons (.cons (.cons (.cons (.cons (.cons .nil))))))))) (fun _ _ => ?_))
       refine G.done ?_
       refine G.thenN ?_
       refine G.region ?_
       refine G.v (rv_move rfl) rfl ?_
       (refine G.v (rv_field rfl) rfl ?_)
       (refine G.v (rv_load1 0 rfl rfl rfl) rfl ?_)
       (refine G.v (rv_field rfl) rfl ?_)
       (refine G.v (rv_load1 0 rfl rfl rfl) rfl ?_)
       (refine G.v (rv_field rfl) rfl ?_)
       (refine G.v (rv_load1 0 rfl rfl rfl) rfl ?_)
       refine G.op (og_callV rfl rfl (fun w hh => volume_any b.w b.h b.d w)) rfl (fun _ _ => ?_)
       (refine G.v (rv_addB rfl rfl (by omega) (by omega)) rfl ?_)
       refine G.v (rv_assign rfl) rfl ?_
       refine G.done ?_
       refine G.inN ?_
       refine G.thenN ?_
       refine G.region ?_
       (refine G.v (rv_incr rfl rfl (by omega)) rfl ?_)
       refine G.v (rv_move rfl) rfl ?_
       refine G.done ?_
       refine G.backK (k + 1) 1 rfl (.cons rfl (.cons rfl (.nil))) ?_ ?_ ?_
       · exact ⟨congrArg (fun z => some (Value.int .i64 z)) hgt.symm, rfl, trivial⟩
       · exact hlt
       · omega
   · try exact Bool.noConfusion hc
     all_goals
      try replace hc := of_decide_eq_false hc
      try (exfalso; omega)
      all_goals
       refine G.exit ?_
       refine G.thenX ?_
       refine G.thenX ?_
       refine G.inX ?_
       refine G.thenN ?_
       refine G.seq ?_
       refine G.region ?_
       refine G.v (rv_move rfl) rfl ?_
       refine G.v (rv_assign rfl) rfl ?_
       refine G.done ?_
       refine G.thenN ?_
       refine G.ret ?_
       exact G.retFV rfl rfl (congrArg (Value.int .i64) (by rw [take_all (by omega)]; exact vSum_items r us))
section
variable {r : ReqM} {pv tv iv uv : Value} {us : List Int} (w : World) (h : Rd w pv 2 (r.pairs.map PairM.cells)) (h2 : Rd w tv 7 (r.types.map TypeM.cells)) (h3 : Rd w iv 7 (r.items.map ItemM.cells)) (h4 : Rd w uv 1 (us.map icell)) (hul : us.length ≤ 1048576)
include h h2 h3 h4 hul
theorem lowerVolume_any : FnV Tryz.prog 66 [.agg (r.cells pv tv iv).toArray, uv] w (.int .i64 (lowVolM r us)) := by
  have hvi := volUS_in r us
  refine FnV.of (n := 20) Tryz.func66 rfl rfl ?_
  refine G.seq ?_
  refine G.region ?_
  refine G.op (og_box rfl rfl) rfl (fun bk2 _ => ?_)
  refine G.v (rv_assign rfl) rfl ?_
  refine G.done ?_
  refine G.thenN ?_
  refine G.seq ?_
  refine G.seq ?_
  refine G.region ?_
  (refine G.v (rv_loadW 0 rfl rfl rfl) rfl ?_)
  refine G.op (og_callV rfl rfl (fun w hh => sound_any (r := r) w (Rd.stays h _ hh) (Rd.stays h2 _ hh) (Rd.stays h3 _ hh))) rfl (fun _ _ => ?_)
  refine G.v (rv_not rfl) rfl ?_
  refine G.done ?_
  refine G.thenN ?_
  refine G.cond rfl (fun hc => ?_) (fun hc => ?_)
  · try exact Bool.noConfusion hc
    all_goals
     try replace hc := of_decide_eq_true hc
     try (exfalso; contradiction)
     all_goals
      have hno : ¬ classM r = 0 := by simpa using hc
      all_goals
       refine G.seq ?_
       refine G.region ?_
       refine G.v (rv_assign rfl) rfl ?_
       refine G.done ?_
       refine G.thenN ?_
       refine G.ret ?_
       refine G.thenR ?_
       exact G.retFV rfl rfl (congrArg (Value.int .i64) (by rw [lowVolM, if_neg hno]))
  · try exact Bool.noConfusion hc
    all_goals
     try replace hc := of_decide_eq_false hc
     try (exfalso; contradiction)
     all_goals
      have hyes : classM r = 0 := by simpa using hc
      have hmv := type_vol (mst_ok hyes)
      all_goals
       refine G.skip ?_
       refine G.thenN ?_
       refine G.seq ?_
       refine G.region ?_
       (refine G.v (rv_loadW 0 rfl rfl rfl) rfl ?_)
       refine G.op (og_callV rfl rfl (fun w hh => masterRoom_any (r := r) w (Rd.stays h2 _ hh))) rfl (fun _ _ => ?_)
       refine G.v (rv_move rfl) rfl ?_
       refine G.v (rv_extract rfl rfl) rfl ?_
       refine G.v (rv_extract rfl rfl) rfl ?_
       refine G.v (rv_assign rfl) rfl ?_
       refine G.v (rv_assign rfl) rfl ?_
       refine G.done ?_
       refine G.thenN ?_
       refine G.seq ?_
       refine G.region ?_
       (refine G.v (rv_loadW 0 rfl rfl rfl) rfl ?_)
       refine G.v (rv_move rfl) rfl ?_
       refine G.op (og_callV rfl rfl (fun w hh => volumeOf_any (r := r) w (Rd.stays h _ hh) (Rd.stays h2 _ hh) (Rd.stays h3 _ hh) (Rd.stays h4 _ hh) hul)) rfl (fun _ _ => ?_)
       refine G.v (rv_move rfl) rfl ?_
       refine G.op (og_callV rfl rfl (fun w hh => upBy_any _ _ w (by omega) (by omega) (by omega) (by omega))) rfl (fun _ _ => ?_)
       refine G.v (rv_assign rfl) rfl ?_
       refine G.done ?_
       refine G.thenN ?_
       refine G.ret ?_
       exact G.retFV rfl rfl (congrArg (Value.int .i64) (by rw [lowVolM, if_pos hyes]))
theorem lowerGram_any : FnV Tryz.prog 67 [.agg (r.cells pv tv iv).toArray, uv] w (.int .i64 (lowGramM r us)) := by
  have hvi := gram_in r us
  refine FnV.of (n := 20) Tryz.func67 rfl rfl ?_
  refine G.seq ?_
  refine G.region ?_
  refine G.op (og_box rfl rfl) rfl (fun bk2 _ => ?_)
  refine G.v (rv_assign rfl) rfl ?_
  refine G.done ?_
  refine G.thenN ?_
  refine G.seq ?_
  refine G.seq ?_
  refine G.region ?_
  (refine G.v (rv_loadW 0 rfl rfl rfl) rfl ?_)
  refine G.op (og_callV rfl rfl (fun w hh => sound_any (r := r) w (Rd.stays h _ hh) (Rd.stays h2 _ hh) (Rd.stays h3 _ hh))) rfl (fun _ _ => ?_)
  refine G.v (rv_not rfl) rfl ?_
  refine G.done ?_
  refine G.thenN ?_
  refine G.cond rfl (fun hc => ?_) (fun hc => ?_)
  · try exact Bool.noConfusion hc
    all_goals
     try replace hc := of_decide_eq_true hc
     try (exfalso; contradiction)
     all_goals
      have hno : ¬ classM r = 0 := by simpa using hc
      all_goals
       refine G.seq ?_
       refine G.region ?_
       refine G.v (rv_assign rfl) rfl ?_
       refine G.done ?_
       refine G.thenN ?_
       refine G.ret ?_
       refine G.thenR ?_
       exact G.retFV rfl rfl (congrArg (Value.int .i64) (by rw [lowGramM, if_neg hno]))
  · try exact Bool.noConfusion hc
    all_goals
     try replace hc := of_decide_eq_false hc
     try (exfalso; contradiction)
     all_goals
      have hyes : classM r = 0 := by simpa using hc
      have hmv := type_in (mst_ok hyes)
      all_goals
       refine G.skip ?_
       refine G.thenN ?_
       refine G.seq ?_
       refine G.region ?_
       (refine G.v (rv_loadW 0 rfl rfl rfl) rfl ?_)
       refine G.op (og_callV rfl rfl (fun w hh => masterRoom_any (r := r) w (Rd.stays h2 _ hh))) rfl (fun _ _ => ?_)
       refine G.v (rv_move rfl) rfl ?_
       refine G.v (rv_extract rfl rfl) rfl ?_
       refine G.v (rv_extract rfl rfl) rfl ?_
       refine G.v (rv_assign rfl) rfl ?_
       refine G.v (rv_assign rfl) rfl ?_
       refine G.done ?_
       refine G.thenN ?_
       refine G.seq ?_
       refine G.region ?_
       (refine G.v (rv_loadW 0 rfl rfl rfl) rfl ?_)
       refine G.v (rv_move rfl) rfl ?_
       refine G.op (og_callV rfl rfl (fun w hh => gramOf_any (r := r) w (Rd.stays h _ hh) (Rd.stays h2 _ hh) (Rd.stays h3 _ hh) (Rd.stays h4 _ hh) hul)) rfl (fun _ _ => ?_)
       refine G.v (rv_move rfl) rfl ?_
       refine G.op (og_callV rfl rfl (fun w hh => upBy_any _ _ w (by omega) (by omega) (by omega) (by omega))) rfl (fun _ _ => ?_)
       refine G.v (rv_assign rfl) rfl ?_
       refine G.done ?_
       refine G.thenN ?_
       refine G.ret ?_
       exact G.retFV rfl rfl (congrArg (Value.int .i64) (by rw [lowGramM, if_pos hyes]))
theorem lowerGreat_any : FnV Tryz.prog 68 [.agg (r.cells pv tv iv).toArray, uv] w (.int .i64 (greatM r us)) := by
  have hil := items_len r us
  have hil2 : ((itemsM r us).map ItemM.cells).length = (itemsM r us).length := by simp
  refine FnV.of (n := 50) Tryz.func68 rfl rfl ?_
  refine G.seq ?_
  refine G.region ?_
  refine G.op (og_box rfl rfl) rfl (fun bk2 _ => ?_)
  refine G.v (rv_assign rfl) rfl ?_
  refine G.done ?_
  refine G.thenN ?_
  refine G.seq ?_
  refine G.seq ?_
  refine G.region ?_
  (refine G.v (rv_loadW 0 rfl rfl rfl) rfl ?_)
  refine G.op (og_callV rfl rfl (fun w hh => sound_any (r := r) w (Rd.stays h _ hh) (Rd.stays h2 _ hh) (Rd.stays h3 _ hh))) rfl (fun _ _ => ?_)
  refine G.v (rv_not rfl) rfl ?_
  refine G.done ?_
  refine G.thenN ?_
  refine G.cond rfl (fun hc => ?_) (fun hc => ?_)
  · try exact Bool.noConfusion hc
    all_goals
     try replace hc := of_decide_eq_true hc
     try (exfalso; contradiction)
     all_goals
      have hno : ¬ classM r = 0 := by simpa using hc
      all_goals
       refine G.seq ?_
       refine G.region ?_
       refine G.v (rv_assign rfl) rfl ?_
       refine G.done ?_
       refine G.thenN ?_
       refine G.ret ?_
       refine G.thenR ?_
       exact G.retFV rfl rfl (congrArg (Value.int .i64) (by rw [greatM, if_neg hno]))
  · try exact Bool.noConfusion hc
    all_goals
     try replace hc := of_decide_eq_false hc
     try (exfalso; contradiction)
     all_goals
      have hyes : classM r = 0 := by simpa using hc
      all_goals
       refine G.skip ?_
       refine G.thenN ?_
       refine G.seq ?_
       refine G.region ?_
       (refine G.v (rv_loadW 0 rfl rfl rfl) rfl ?_)
       refine G.op (og_callV rfl rfl (fun w hh => masterRoom_any (r := r) w (Rd.stays h2 _ hh))) rfl (fun _ _ => ?_)
       refine G.v (rv_move rfl) rfl ?_
       refine G.v (rv_extract rfl rfl) rfl ?_
       refine G.v (rv_extract rfl rfl) rfl ?_
       refine G.v (rv_assign rfl) rfl ?_
       refine G.v (rv_assign rfl) rfl ?_
       refine G.done ?_
       refine G.thenN ?_
       refine G.seq ?_
       refine G.region ?_
       refine G.v (rv_assign rfl) rfl ?_
       refine G.v (rv_assign rfl) rfl ?_
       refine G.done ?_
       refine G.thenN ?_
       refine G.seq ?_
       refine G.seq ?_
       refine G.region ?_
       (refine G.v (rv_loadW 0 rfl rfl rfl) rfl ?_)
       refine G.v (rv_move rfl) rfl ?_
       (refine G.op (og_callF1 rfl rfl (fun w hh => itemsOf_any (r := r) (us := us) w (Rd.stays h _ hh) (Rd.stays h2 _ hh) (Rd.stays h3 _ hh) (Rd.stays h4 _ hh) hul)) rfl ?_; rintro vs hvs; try dsimp only)
       refine G.v (rv_len rfl (by exact Rd.owned 0 rfl)) rfl ?_
       refine G.v (rv_move rfl) rfl ?_
       refine G.done ?_
       refine G.thenN ?_
       refine G.block ?_
       -- loop 0: turned [7, 8, 23], kept [5, 6, 21, 22]
       refine G.loopK (ι := Nat) (ks := [5, 6, 21, 22]) (fun k => [(7, .int .i64 (((itemsM r us).take k).countP (wideP r) : Int)), (8, .int .i64 (((itemsM r us).take k).countP (heavyP r) : Int)), (23, .int .i64 k)]) (fun _ => []) (fun k => k ≤ (itemsM r us).length) (fun k => (itemsM r us).length - k) 0 (.cons rfl (.cons rfl (.cons rfl (.cons rfl (.nil))))) rfl ?_ ?_ ?_
       · exact Nat.zero_le _
       · exact ⟨rfl, rfl, rfl, trivial⟩
       rintro k hk
       have hc1 := List.countP_le_length (p := wideP r) (l := (itemsM r us).take k)
       have hc2 := List.countP_le_length (p := heavyP r) (l := (itemsM r us).take k)
       rw [List.length_take, Nat.min_eq_left hk] at hc1 hc2
       by_cases hlt : k < (itemsM r us).length
       case' pos => (obtain ⟨b, hb⟩ := get_of_lt hlt; have he := get_map hb ItemM.cells; have hbg : 1 ≤ volM b.w b.h b.d ∧ volM b.w b.h b.d ≤ 8000000000 := item_vol (items_ok b (List.mem_of_getElem? hb)); have hbg2 := item_g (items_ok b (List.mem_of_getElem? hb)))
       all_goals
        refine G.seq ?_
        refine G.region ?_
        refine G.v (rv_lss rfl rfl) rfl ?_
        refine G.done ?_
        refine G.thenN ?_
        refine G.seq ?_
        refine G.cond rfl (fun hc => ?_) (fun hc => ?_)
        · try exact Bool.noConfusion hc
          all_goals
           try replace hc := of_decide_eq_true hc
           try (exfalso; omega)
           all_goals
            refine G.skip ?_
            refine G.thenN ?_
            refine G.seq ?_
            refine G.block ?_
            refine G.seq ?_
            refine G.region ?_
            (refine G.v (rv_indexH rfl rfl (by exact Rd.owned 0 rfl) rfl (by assumption)) rfl ?_)
            (refine G.v (rv_loadEW rfl (by exact Rd.owned 0 rfl) (by assumption) rfl) rfl ?_)
            refine G.op (og_alloc) rfl (fun bk10 _ => ?_)
            (refine G.op0 (og_st0 rfl rfl rfl rfl rfl rfl (.zero (.cons (.cons (.cons (.cons (.cons (.cons (.cons .nil))))))))) (fun _ _ => ?_))
            refine G.done ?_
            refine G.thenN ?_
            refine G.seq ?_
            refine G.seq ?_
            refine G.region ?_
            (refine G.v (rv_field rfl) rfl ?_)
            (refine G.v (rv_load1 0 rfl rfl rfl) rfl ?_)
            (refine G.v (rv_field rfl) rfl ?_)
            (refine G.v (rv_load1 0 rfl rfl rfl) rfl ?_)
            (refine G.v (rv_field rfl) rfl ?_)
            (refine G.v (rv_load1 0 rfl rfl rfl) rfl ?_)
            refine G.op (og_callV rfl rfl (fun w hh => volume_any b.w b.h b.d w)) rfl (fun _ _ => ?_)
            refine G.v (rv_mulB rfl rfl (by omega) (by omega)) rfl ?_
            refine G.v (rv_move rfl) rfl ?_
            refine G.v (rv_gtr rfl rfl) rfl ?_
            refine G.done ?_
            refine G.thenN ?_
            refine G.cond rfl (fun hc => ?_) (fun hc => ?_)
            · try exact Bool.noConfusion hc
              all_goals
               try replace hc := of_decide_eq_true hc
               try (exfalso; contradiction)
               all_goals
                have hw1 := cntP_yes (p := wideP r) hb (decide_eq_true hc)
                all_goals
                 refine G.region ?_
                 refine G.v (rv_move rfl) rfl ?_
                 (refine G.v (rv_incr rfl rfl (by omega)) rfl ?_)
                 refine G.v (rv_assign rfl) rfl ?_
                 refine G.done ?_
                 refine G.thenN ?_
                 refine G.seq ?_
                 refine G.region ?_
                 (refine G.v (rv_field rfl) rfl ?_)
                 (refine G.v (rv_load1 0 rfl rfl rfl) rfl ?_)
                 refine G.v (rv_mulB rfl rfl (by omega) (by omega)) rfl ?_
                 refine G.v (rv_move rfl) rfl ?_
                 refine G.v (rv_gtr rfl rfl) rfl ?_
                 refine G.done ?_
                 refine G.thenN ?_
                 refine G.cond rfl (fun hc => ?_) (fun hc => ?_)
                 · try exact Bool.noConfusion hc
                   all_goals
                    try replace hc := of_decide_eq_true hc
                    try (exfalso; contradiction)
                    all_goals
                     have hw2 := cntP_yes (p := heavyP r) hb (decide_eq_true hc)
                     all_goals
                      refine G.region ?_
                      refine G.v (rv_move rfl) rfl ?_
                      (refine G.v (rv_incr rfl rfl (by omega)) rfl ?_)
                      refine G.v (rv_assign rfl) rfl ?_
                      refine G.done ?_
                      refine G.inN ?_
                      refine G.thenN ?_
                      refine G.region ?_
                      (refine G.v (rv_incr rfl rfl (by omega)) rfl ?_)
                      refine G.v (rv_move rfl) rfl ?_
                      refine G.done ?_
                      refine G.backK (k + 1) 1 rfl (.cons rfl (.cons rfl (.cons rfl (.cons rfl (.nil))))) ?_ ?_ ?_
                      · exact ⟨congrArg (fun z => some (Value.int .i64 z)) hw1.symm, congrArg (fun z => some (Value.int .i64 z)) hw2.symm, rfl, trivial⟩
                      · exact hlt
                      · omega
                 · try exact Bool.noConfusion hc
                   all_goals
                    try replace hc := of_decide_eq_false hc
                    try (exfalso; contradiction)
                    all_goals
                     have hw2 := cntP_no (p := heavyP r) hb (decide_eq_false hc)
                     all_goals
                      refine G.skip ?_
                      refine G.inN ?_
                      refine G.thenN ?_
                      refine G.region ?_
                      (refine G.v (rv_incr rfl rfl (by omega)) rfl ?_)
                      refine G.v (rv_move rfl) rfl ?_
                      refine G.done ?_
                      refine G.backK (k + 1) 1 rfl (.cons rfl (.cons rfl (.cons rfl (.cons rfl (.nil))))) ?_ ?_ ?_
                      · exact ⟨congrArg (fun z => some (Value.int .i64 z)) hw1.symm, congrArg (fun z => some (Value.int .i64 z)) hw2.symm, rfl, trivial⟩
                      · exact hlt
                      · omega
            · try exact Bool.noConfusion hc
              all_goals
               try replace hc := of_decide_eq_false hc
               try (exfalso; contradiction)
               all_goals
                have hw1 := cntP_no (p := wideP r) hb (decide_eq_false hc)
                all_goals
                 refine G.skip ?_
                 refine G.thenN ?_
                 refine G.seq ?_
                 refine G.region ?_
                 (refine G.v (rv_field rfl) rfl ?_)
                 (refine G.v (rv_load1 0 rfl rfl rfl) rfl ?_)
                 refine G.v (rv_mulB rfl rfl (by omega) (by omega)) rfl ?_
                 refine G.v (rv_move rfl) rfl ?_
                 refine G.v (rv_gtr rfl rfl) rfl ?_
                 refine G.done ?_
                 refine G.thenN ?_
                 refine G.cond rfl (fun hc => ?_) (fun hc => ?_)
                 · try exact Bool.noConfusion hc
                   all_goals
                    try replace hc := of_decide_eq_true hc
                    try (exfalso; contradiction)
                    all_goals
                     have hw2 := cntP_yes (p := heavyP r) hb (decide_eq_true hc)
                     all_goals
                      refine G.region ?_
                      refine G.v (rv_move rfl) rfl ?_
                      (refine G.v (rv_incr rfl rfl (by omega)) rfl ?_)
                      refine G.v (rv_assign rfl) rfl ?_
                      refine G.done ?_
                      refine G.inN ?_
                      refine G.thenN ?_
                      refine G.region ?_
                      (refine G.v (rv_incr rfl rfl (by omega)) rfl ?_)
                      refine G.v (rv_move rfl) rfl ?_
                      refine G.done ?_
                      refine G.backK (k + 1) 1 rfl (.cons rfl (.cons rfl (.cons rfl (.cons rfl (.nil))))) ?_ ?_ ?_
                      · exact ⟨congrArg (fun z => some (Value.int .i64 z)) hw1.symm, congrArg (fun z => some (Value.int .i64 z)) hw2.symm, rfl, trivial⟩
                      · exact hlt
                      · omega
                 · try exact Bool.noConfusion hc
                   all_goals
                    try replace hc := of_decide_eq_false hc
                    try (exfalso; contradiction)
                    all_goals
                     have hw2 := cntP_no (p := heavyP r) hb (decide_eq_false hc)
                     all_goals
                      refine G.skip ?_
                      refine G.inN ?_
                      refine G.thenN ?_
                      refine G.region ?_
                      (refine G.v (rv_incr rfl rfl (by omega)) rfl ?_)
                      refine G.v (rv_move rfl) rfl ?_
                      refine G.done ?_
                      refine G.backK (k + 1) 1 rfl (.cons rfl (.cons rfl (.cons rfl (.cons rfl (.nil))))) ?_ ?_ ?_
                      · exact ⟨congrArg (fun z => some (Value.int .i64 z)) hw1.symm, congrArg (fun z => some (Value.int .i64 z)) hw2.symm, rfl, trivial⟩
                      · exact hlt
                      · omega
        · try exact Bool.noConfusion hc
          all_goals
           try replace hc := of_decide_eq_false hc
           try (exfalso; omega)
           all_goals
            refine G.exit ?_
            refine G.thenX ?_
            refine G.thenX ?_
            refine G.inX ?_
            refine G.thenN ?_
            refine G.seq ?_
            refine G.region ?_
            refine G.v (rv_move rfl) rfl ?_
            refine G.v (rv_move rfl) rfl ?_
            refine G.v (rv_max rfl rfl) rfl ?_
            refine G.v (rv_assign rfl) rfl ?_
            refine G.done ?_
            refine G.thenN ?_
            refine G.ret ?_
            exact G.retFV rfl rfl (congrArg (Value.int .i64) (by rw [greatM, if_pos hyes, take_all (by omega)]))
theorem lower_any : FnV Tryz.prog 63 [.agg (r.cells pv tv iv).toArray, uv] w (.int .i64 (lowM r us)) := by
  refine FnV.of (n := 15) Tryz.func63 rfl rfl ?_
  refine G.seq ?_
  refine G.region ?_
  refine G.op (og_box rfl rfl) rfl (fun bk2 _ => ?_)
  refine G.v (rv_assign rfl) rfl ?_
  refine G.done ?_
  refine G.thenN ?_
  refine G.seq ?_
  refine G.drawL [10] ?_
  (refine GE.q 0 rfl (by as_aux_lemma => kernel_rfl) rfl (qg_runs (rv_loadW 0 rfl rfl rfl)) rfl ?_)
  refine GE.q 1 rfl (by as_aux_lemma => kernel_rfl) rfl (qg_runs (rv_move rfl)) rfl ?_
  refine GE.q 2 rfl (by as_aux_lemma => kernel_rfl) rfl (qg_call rfl rfl (fun w hh => lowerVolume_any (r := r) w (Rd.stays h _ hh) (Rd.stays h2 _ hh) (Rd.stays h3 _ hh) (Rd.stays h4 _ hh) hul)) rfl ?_
  (refine GE.q 3 rfl (by as_aux_lemma => kernel_rfl) rfl (qg_runs (rv_loadW 0 rfl rfl rfl)) rfl ?_)
  refine GE.q 4 rfl (by as_aux_lemma => kernel_rfl) rfl (qg_runs (rv_move rfl)) rfl ?_
  refine GE.q 5 rfl (by as_aux_lemma => kernel_rfl) rfl (qg_call rfl rfl (fun w hh => lowerGram_any (r := r) w (Rd.stays h _ hh) (Rd.stays h2 _ hh) (Rd.stays h3 _ hh) (Rd.stays h4 _ hh) hul)) rfl ?_
  (refine GE.q 6 rfl (by as_aux_lemma => kernel_rfl) rfl (qg_runs (rv_loadW 0 rfl rfl rfl)) rfl ?_)
  refine GE.ol 7 (by as_aux_lemma => kernel_rfl) rfl rfl (og_runs (rv_move rfl)) rfl (fun _ _ h => by exact h) (fun _ _ => ?_)
  refine GE.ol 8 (by as_aux_lemma => kernel_rfl) rfl rfl (og_callV rfl rfl (fun w hh => lowerGreat_any (r := r) w (Rd.stays h _ hh) (Rd.stays h2 _ hh) (Rd.stays h3 _ hh) (Rd.stays h4 _ hh) hul)) rfl (fun _ _ h => by exact h) (fun _ _ => ?_)
  refine GE.ol 9 (by as_aux_lemma => kernel_rfl) rfl rfl (og_runs (rv_max3 rfl rfl rfl)) rfl (fun _ _ h => by exact h) (fun _ _ => ?_)
  refine GE.t 10 (by as_aux_lemma => kernel_rfl) rfl rfl rfl (og_runs (rv_assign rfl)) rfl (fun _ _ => ?_)
  refine GE.done (by as_aux_lemma => kernel_rfl) ?_
  refine G.thenN ?_
  refine G.ret ?_
  exact G.retFV rfl rfl rfl
end
end Go.Proofs.YtibkggjbkgdnkaaGreat

/-
  What no packing is below: the reference's way, and the law.
-/
namespace Go.Proofs.YtibkggjbkgdnkaaGreat
open Go.RowKit
section
variable {P : Program} {n : Nat} {w0 : World} {fr : Fr} {H : List Ch}
def fieldOne (P : Program) (t : TypeId) (i : Nat) : Option Nat :=
  match P.underlying t with
  | some (.struct fs) => match fs[i]? with
    | some f => if (P.underlying f.type).map aggB = some false then some f.offset else none
    | none => none
  | _ => none
theorem rv_fieldV {x : Operand} {t : TypeId} {i : Nat} {cs : List Value} {v : Value} (off : Nat) (hx : opv fr x = some (.agg cs.toArray)) (hF : fieldOne P t i = some off) (hv : cs[off]? = some v) : RunsV P n w0 fr H (.field t x i) v := fun a w hr _ _ _ _ _ _ => by
  unfold fieldOne at hF
  split at hF
  · rename_i fs hs
    split at hF
    · rename_i f hf
      split at hF
      · rename_i h1
        injection hF with hF
        subst hF
        simp [execOp, hr.opv hx, Instr.field, run_underlying hs, hf, asAgg, part, run_isAgg_one h1, hv]
      · cases hF
    · cases hF
  · cases hF
theorem rv_sliceLH {x y z : Operand} {t e : TypeId} {s bs : Nat} {zs : List Value} [hT : TySlice P t e] [hI : TyInfo P e s zs bs] {v : Value} {es : List (List Value)} {k k2 : IntKind} {l h : Nat} {q : Int} (hx : opv fr x = some v) (hy : opv fr y = some (.int k (l : Int))) (hz : opv fr z = some (.int k2 q)) (hq : q = (h : Int)) (hv : ∀ w, HeapOk w0 w H → Rd w v s es) (hl : l ≤ h) (hh : h ≤ es.length) :
    RunsV P n w0 fr H (.slice t x (some y) (some z) none) (subV v s l h) := fun a w hr hw _ _ _ _ _ => by
  subst hq
  obtain ⟨ad, cap, rfl, h1, h2, h3⟩ := (hv w hw).form
  obtain ⟨i, z, g1, g2, g3, g4, g5⟩ := hI.get
  have e1 : (l : Int) ≤ (h : Int) := by omega
  have e2 : (0 : Int) ≤ (l : Int) := by omega
  have e3 : (h : Int) ≤ (cap : Int) := by omega
  have e4 : (0 : Int) ≤ (h : Int) := by omega
  simp [execOp, hr.opv hx, hr.opv hy, hr.opv hz, Instr.sliceAt, Instr.slice, run_underlying hT.h, Instr.sliceBounds, run_sliceBound, sizeOf, typeInfo, g1, g2, subV, sliced, e1, e2, e3, e4]
theorem FnV.toFn {f : FuncId} {vs : List Value} {w : World} {v : Value} (h : FnV P f vs w v) : Fn P f vs w (fun _ : Unit => True) (fun _ => v) (fun _ => []) :=
  Calls.mono h fun e w' he => ⟨(), trivial, he.1, he.2⟩
end
attribute [local irreducible] Go.wpList Go.Code.wp Go.Exit.then Go.Exit.inBlock Go.bodyPost Go.Calls pE pB G RunsV FnV Fn FnM
set_option maxRecDepth 100000
set_option maxHeartbeats 4000000
theorem itemOr_v (r : ReqM) (u : Int) : volM (itemOr r u).w (itemOr r u).h (itemOr r u).d = vOf r u := by
  rw [itemOr, vOf]; cases itemAt r u <;> rfl
theorem load_eq {r : ReqM} {us : List Int} {k : Nat} {u : Int} (hb : us[k]? = some u) : [Value.int .i64 (volUS r (us.take k) + volM (itemOr r u).w (itemOr r u).h (itemOr r u).d), Value.int .i64 (gramM r (us.take k) + (itemOr r u).g)] = [Value.int .i64 (volUS r (us.take (k + 1))), Value.int .i64 (gramM r (us.take (k + 1)))] := by
  rw [volUS_take hb, gram_take hb, itemOr_v, itemOr_g]
theorem one_sub {us : List Int} {k : Nat} {u : Int} (hb : us[k]? = some u) : ((us.map icell).drop k).take (k + 1 - k) = [u].map icell := by
  have hk := (List.getElem?_eq_some_iff.1 hb)
  obtain ⟨h1, rfl⟩ := hk
  rw [show k + 1 - k = 1 by omega, ← List.map_drop, List.drop_eq_getElem_cons h1]; rfl
theorem volUS_one (r : ReqM) (u : Int) : volUS r [u] = vOf r u := by simp [volUS]
theorem gram_one (r : ReqM) (u : Int) : gramM r [u] = gOf r u := by simp [gramM]
theorem cnt_nextU {p : Int → Bool} {us : List Int} {k : Nat} {u : Int} (hb : us[k]? = some u) : ((us.take (k + 1)).countP p : Int) = (us.take k).countP p + (if p u then 1 else 0) := by
  rw [List.take_add_one, hb, Option.toList_some, List.countP_append, List.countP_singleton]; split <;> simp
theorem cnt_items {r : ReqM} (f : ItemM → Int) (V : Int) (hV : 0 ≤ V) (g : Int → Int) (hg : ∀ u, g u = match itemAt r u with | some x => f x | none => 0) : ∀ us : List Int, us.countP (fun u => decide (2 * g u > V)) = (itemsM r us).countP (fun x => decide (2 * f x > V))
  | [] => rfl
  | u :: us => by
    have ih := cnt_items f V hV g hg us
    have hgu := hg u
    simp only [itemsM, List.filterMap_cons, List.countP_cons] at *
    cases h : itemAt r u with
    | none =>
      rw [h] at hgu; dsimp only at hgu
      rw [ih, hgu, if_neg (by simp; omega)]; rfl
    | some x =>
      rw [h] at hgu; dsimp only at hgu
      rw [List.countP_cons, ih, hgu]
theorem l1Bit_any (b : Bool) (w : World) : FnV Tryz.prog 168 [.bool b] w (.int .i64 (if b then 1 else 0)) := by
  refine FnV.of (n := 4) Tryz.func168 rfl rfl ?_
  refine G.seq ?_
  refine G.region ?_
  refine G.v (rv_assign rfl) rfl ?_
  refine G.done ?_
  refine G.thenN ?_
  refine G.seq ?_
  refine G.seq ?_
  refine G.region ?_
  refine G.v (rv_move rfl) rfl ?_
  refine G.done ?_
  refine G.thenN ?_
  refine G.cond rfl (fun hc => ?_) (fun hc => ?_)
  · try exact Bool.noConfusion hc
    all_goals
     try replace hc := of_decide_eq_true hc
     try (exfalso; contradiction)
     all_goals
      refine G.seq ?_
      refine G.region ?_
      refine G.v (rv_assign rfl) rfl ?_
      refine G.done ?_
      refine G.thenN ?_
      refine G.ret ?_
      refine G.thenR ?_
      exact G.retFV rfl rfl (congrArg (Value.int .i64) (by rw [if_pos hc]))
  · try exact Bool.noConfusion hc
    all_goals
     try replace hc := of_decide_eq_false hc
     try (exfalso; contradiction)
     all_goals
      refine G.skip ?_
      refine G.thenN ?_
      refine G.seq ?_
      refine G.region ?_
      refine G.v (rv_assign rfl) rfl ?_
      refine G.done ?_
      refine G.thenN ?_
      refine G.ret ?_
      (exact G.retFV rfl rfl (congrArg (Value.int .i64) (by rw [if_neg (by rw [hc]; decide)])))
section
variable {r : ReqM} {pv tv iv uv : Value} {us : List Int} (w : World) (h : Rd w pv 2 (r.pairs.map PairM.cells)) (h2 : Rd w tv 7 (r.types.map TypeM.cells)) (h3 : Rd w iv 7 (r.items.map ItemM.cells)) (h4 : Rd w uv 1 (us.map icell)) (hul : us.length ≤ 1048576)
include h3 h4 hul in
theorem l7Of_any {av : Value} (h5 : Rd w av 1 ((unitsM r).map ncell)) : FnV Tryz.prog 107 [.agg (r.cells pv tv iv).toArray, av, uv] w (.agg [.int .i64 (volUS r us), .int .i64 (gramM r us)].toArray) := by
  refine FnV.of (n := 46) Tryz.func107 rfl rfl ?_
  refine G.seq ?_
  refine G.region ?_
  refine G.op (og_box rfl rfl) rfl (fun bk3 _ => ?_)
  refine G.op (og_alloc) rfl (fun bk6 _ => ?_)
  refine G.done ?_
  refine G.thenN ?_
  refine G.seq ?_
  refine G.region ?_
  refine G.v (rv_build2 rfl .nil .nil) rfl ?_
  refine G.op (og_alloc) rfl (fun bk7 _ => ?_)
  (refine G.op0 (og_st0 rfl rfl rfl rfl rfl rfl (.zero (.cons (.cons .nil)))) (fun _ _ => ?_))
  refine G.done ?_
  refine G.thenN ?_
  refine G.seq ?_
  refine G.seq ?_
  refine G.region ?_
  refine G.v (rv_assign rfl) rfl ?_
  refine G.done ?_
  refine G.thenN ?_
  refine G.block ?_
  -- loop 0: turned [8], kept [1, 2, 3, 6, 7]
  refine G.loopK (ι := Nat) (ks := [1, 2, 3, 6, 7]) (fun k => [(8, .int .i64 k)]) (fun k => [.blk bk7 112 [.int .i64 (volUS r (us.take k)), .int .i64 (gramM r (us.take k))]]) (fun k => k ≤ us.length) (fun k => us.length - k) 0 (.cons rfl (.cons rfl (.cons rfl (.cons rfl (.cons rfl (.nil)))))) rfl ?_ ?_ ?_
  · exact Nat.zero_le _
  · exact ⟨rfl, trivial⟩
  rintro k hk
  have hgi := gram_in r (us.take k)
  have hvi := volUS_in r (us.take k)
  rw [List.length_take, Nat.min_eq_left hk] at hgi hvi
  by_cases hlt : k < us.length
  case' pos => (obtain ⟨u, hb⟩ := get_of_lt hlt; have e1 := get_map hb icell; have hog := itemOr_g r u; have hov := itemOr_v r u; have hg2 := gOf_in r u; have hv2 := vOf_in r u)
  all_goals
   refine G.seq ?_
   refine G.seq ?_
   refine G.region ?_
   refine G.v (rv_move rfl) rfl ?_
   refine G.v (rv_move rfl) rfl ?_
   refine G.v (rv_len rfl (by exact Rd.stays (by assumption))) rfl ?_
   refine G.v (rv_lss rfl rfl) rfl ?_
   refine G.done ?_
   refine G.thenN ?_
   refine G.cond rfl (fun hc => ?_) (fun hc => ?_)
   · try exact Bool.noConfusion hc
     all_goals
      try replace hc := of_decide_eq_true hc
      try simp only [List.length_map] at hc
      try (exfalso; omega)
      all_goals
       refine G.skip ?_
       refine G.thenN ?_
       refine G.seq ?_
       refine G.block ?_
       refine G.seq ?_
       refine G.drawL [12] ?_
       (refine GE.q 0 rfl (by as_aux_lemma => kernel_rfl) rfl (qg_runs (rv_loadW 2 rfl rfl rfl)) rfl ?_)
       refine GE.q 1 rfl (by as_aux_lemma => kernel_rfl) rfl (qg_runs (rv_move rfl)) rfl ?_
       refine GE.q 2 rfl (by as_aux_lemma => kernel_rfl) rfl (qg_runs (rv_move rfl)) rfl ?_
       refine GE.q 3 rfl (by as_aux_lemma => kernel_rfl) rfl (qg_runs (rv_move rfl)) rfl ?_
       (refine GE.q 4 rfl (by as_aux_lemma => kernel_rfl) rfl (qg_runs (rv_indexH rfl rfl (by exact Rd.stays (by assumption)) rfl (by assumption))) rfl ?_)
       refine GE.q 5 rfl (by as_aux_lemma => kernel_rfl) rfl (qg_runs (rv_loadE rfl (by exact Rd.stays (by assumption)) (by assumption) rfl)) rfl ?_
       refine GE.q 6 rfl (by as_aux_lemma => kernel_rfl) rfl (qg_call rfl rfl (fun w hh => l6Item_any (r := r) u w (Rd.stays h3 _ hh) (Rd.stays h5 _ hh))) rfl ?_
       refine GE.q 7 rfl (by as_aux_lemma => kernel_rfl) rfl (qg_runs (rv_move rfl)) rfl ?_
       refine GE.q 8 rfl (by as_aux_lemma => kernel_rfl) rfl (qg_runs (rv_extract rfl rfl)) rfl ?_
       refine GE.q 9 rfl (by as_aux_lemma => kernel_rfl) rfl (qg_runs (rv_extract rfl rfl)) rfl ?_
       refine GE.ol 10 (by as_aux_lemma => kernel_rfl) rfl rfl (og_alloc) rfl (fun _ _ h => by exact h.drop 1) (fun bk9 _ => ?_)
       (refine GE.ol0 11 (by as_aux_lemma => kernel_rfl) rfl rfl (og_st0 rfl rfl rfl rfl rfl rfl (.zero (.cons (.cons (.cons (.cons (.cons (.cons (.cons .nil))))))))) (fun _ _ h => by exact h.drop 1) (fun _ _ => ?_))
       refine GE.t 12 (by as_aux_lemma => kernel_rfl) rfl rfl rfl (og_runs (rv_assign rfl)) rfl (fun _ _ => ?_)
       refine GE.done (by as_aux_lemma => kernel_rfl) ?_
       refine G.thenN ?_
       refine G.seq ?_
       refine G.drawL [10, 11] ?_
       (refine GE.q 0 rfl (by as_aux_lemma => kernel_rfl) rfl (qg_runs (rv_field rfl)) rfl ?_)
       (refine GE.q 1 rfl (by as_aux_lemma => kernel_rfl) rfl (qg_runs (rv_load1 1 rfl rfl rfl)) rfl ?_)
       (refine GE.q 2 rfl (by as_aux_lemma => kernel_rfl) rfl (qg_runs (rv_field rfl)) rfl ?_)
       (refine GE.q 3 rfl (by as_aux_lemma => kernel_rfl) rfl (qg_runs (rv_load1 0 rfl rfl rfl)) rfl ?_)
       (refine GE.q 4 rfl (by as_aux_lemma => kernel_rfl) rfl (qg_runs (rv_field rfl)) rfl ?_)
       (refine GE.q 5 rfl (by as_aux_lemma => kernel_rfl) rfl (qg_runs (rv_load1 0 rfl rfl rfl)) rfl ?_)
       (refine GE.ol 6 (by as_aux_lemma => kernel_rfl) rfl rfl (og_runs (rv_field rfl)) rfl (fun _ _ h => by exact h) (fun _ _ => ?_))
       (refine GE.ol 7 (by as_aux_lemma => kernel_rfl) rfl rfl (og_runs (rv_load1 0 rfl rfl rfl)) rfl (fun _ _ h => by exact h) (fun _ _ => ?_))
       refine GE.ol 8 (by as_aux_lemma => kernel_rfl) rfl rfl (og_callV rfl rfl (fun w hh => svolume_any (itemOr r u).w (itemOr r u).h (itemOr r u).d w)) rfl (fun _ _ h => by exact h) (fun _ _ => ?_)
       (refine GE.ol 9 (by as_aux_lemma => kernel_rfl) rfl rfl (og_runs (rv_addB rfl rfl (by omega) (by omega))) rfl (fun _ _ h => by exact h) (fun _ _ => ?_))
       (refine GE.t 10 (by as_aux_lemma => kernel_rfl) rfl rfl rfl (og_runs (rv_field rfl)) rfl (fun _ _ => ?_))
       (refine GE.t0 11 (by as_aux_lemma => kernel_rfl) rfl rfl rfl (og_st1 rfl rfl rfl rfl rfl rfl (.zero (.cons .nil))) (fun _ _ => ?_))
       refine GE.done (by as_aux_lemma => kernel_rfl) ?_
       refine G.thenN ?_
       refine G.region ?_
       (refine G.v (rv_field rfl) rfl ?_)
       (refine G.v (rv_load1 1 rfl rfl rfl) rfl ?_)
       (refine G.v (rv_field rfl) rfl ?_)
       (refine G.v (rv_load1 0 rfl rfl rfl) rfl ?_)
       (refine G.v (rv_addB rfl rfl (by omega) (by omega)) rfl ?_)
       (refine G.v (rv_field rfl) rfl ?_)
       (refine G.op0 (og_st1 rfl rfl rfl rfl rfl rfl (.succ (.zero (.cons .nil)))) (fun _ _ => ?_))
       refine G.done ?_
       refine G.inN ?_
       refine G.thenN ?_
       refine G.region ?_
       refine G.v (rv_move rfl) rfl ?_
       (refine G.v (rv_incr rfl rfl (by omega)) rfl ?_)
       refine G.v (rv_assign rfl) rfl ?_
       refine G.done ?_
       refine G.backK (k + 1) 1 (one_eq (congrArg (fun z => Ch.blk bk7 112 z) (load_eq hb))) (.cons rfl (.cons rfl (.cons rfl (.cons rfl (.cons rfl (.nil)))))) ?_ ?_ ?_
       · exact ⟨rfl, trivial⟩
       · exact hlt
       · omega
   · try exact Bool.noConfusion hc
     all_goals
      try replace hc := of_decide_eq_false hc
      try simp only [List.length_map] at hc
      try (exfalso; omega)
      all_goals
       refine G.exit ?_
       refine G.thenX ?_
       refine G.thenX ?_
       refine G.inX ?_
       refine G.thenN ?_
       refine G.seq ?_
       refine G.region ?_
       (refine G.v (rv_loadW 0 rfl rfl rfl) rfl ?_)
       (refine G.op0 (og_st1 rfl rfl rfl rfl rfl rfl (.zero (.cons (.cons .nil)))) (fun _ _ => ?_))
       refine G.done ?_
       refine G.thenN ?_
       refine G.ret ?_
       rw [take_all (l := us) (k := k) (by omega)]; exact G.retFVc 1 rfl rfl rfl rfl rfl
include h h2 h3 h4 hul
theorem slowerVolume_any : FnV Tryz.prog 137 [.agg (r.cells pv tv iv).toArray, uv] w (.int .i64 (lowVolM r us)) := by
  have hvi := volUS_in r us
  refine FnV.of (n := 29) Tryz.func137 rfl rfl ?_
  refine G.seq ?_
  refine G.region ?_
  refine G.op (og_box rfl rfl) rfl (fun bk2 _ => ?_)
  refine G.v (rv_assign rfl) rfl ?_
  refine G.done ?_
  refine G.thenN ?_
  refine G.seq ?_
  refine G.seq ?_
  refine G.region ?_
  (refine G.v (rv_loadW 0 rfl rfl rfl) rfl ?_)
  refine G.op (og_callV rfl rfl (fun w hh => sclass_any (r := r) w (Rd.stays h _ hh) (Rd.stays h2 _ hh) (Rd.stays h3 _ hh))) rfl (fun _ _ => ?_)
  refine G.v (rv_neq rfl rfl) rfl ?_
  refine G.done ?_
  refine G.thenN ?_
  refine G.cond rfl (fun hc => ?_) (fun hc => ?_)
  · try exact Bool.noConfusion hc
    all_goals
     try replace hc := of_decide_eq_true hc
     try (exfalso; contradiction)
     all_goals
      have hno : ¬ classM r = 0 := hc
      all_goals
       refine G.seq ?_
       refine G.region ?_
       refine G.v (rv_assign rfl) rfl ?_
       refine G.done ?_
       refine G.thenN ?_
       refine G.ret ?_
       refine G.thenR ?_
       exact G.retFV rfl rfl (congrArg (Value.int .i64) (by rw [lowVolM, if_neg hno]))
  · try exact Bool.noConfusion hc
    all_goals
     try replace hc := of_decide_eq_false hc
     try (exfalso; contradiction)
     all_goals
      have hyes : classM r = 0 := by omega
      have hmv := type_vol (mst_ok hyes)
      all_goals
       refine G.skip ?_
       refine G.thenN ?_
       refine G.seq ?_
       refine G.region ?_
       (refine G.v (rv_loadW 0 rfl rfl rfl) rfl ?_)
       refine G.op (og_callV rfl rfl (fun w hh => smasterOf_any (r := r) w (Rd.stays h2 _ hh))) rfl (fun _ _ => ?_)
       refine G.v (rv_move rfl) rfl ?_
       refine G.v (rv_extract rfl rfl) rfl ?_
       refine G.v (rv_extract rfl rfl) rfl ?_
       refine G.op (og_alloc) rfl (fun bk5 _ => ?_)
       (refine G.op0 (og_st0 rfl rfl rfl rfl rfl rfl (.zero (.cons (.cons (.cons (.cons (.cons (.cons (.cons .nil))))))))) (fun _ _ => ?_))
       refine G.v (rv_assign rfl) rfl ?_
       refine G.done ?_
       refine G.thenN ?_
       refine G.seq ?_
       refine G.drawL [14] ?_
       (refine GE.q 0 rfl (by as_aux_lemma => kernel_rfl) rfl (qg_runs (rv_loadW 1 rfl rfl rfl)) rfl ?_)
       (refine GE.q 1 rfl (by as_aux_lemma => kernel_rfl) rfl (qg_runs (rv_loadW 1 rfl rfl rfl)) rfl ?_)
       refine GE.q 3 rfl (by as_aux_lemma => kernel_rfl) rfl (qg_runs (rv_move rfl)) rfl ?_
       (refine GE.q 6 rfl (by as_aux_lemma => kernel_rfl) rfl (qg_runs (rv_field rfl)) rfl ?_)
       (refine GE.q 7 rfl (by as_aux_lemma => kernel_rfl) rfl (qg_runs (rv_load1 0 rfl rfl rfl)) rfl ?_)
       (refine GE.q 8 rfl (by as_aux_lemma => kernel_rfl) rfl (qg_runs (rv_field rfl)) rfl ?_)
       (refine GE.q 9 rfl (by as_aux_lemma => kernel_rfl) rfl (qg_runs (rv_load1 0 rfl rfl rfl)) rfl ?_)
       (refine GE.q 10 rfl (by as_aux_lemma => kernel_rfl) rfl (qg_runs (rv_field rfl)) rfl ?_)
       (refine GE.q 11 rfl (by as_aux_lemma => kernel_rfl) rfl (qg_runs (rv_load1 0 rfl rfl rfl)) rfl ?_)
       (refine GE.ol 2 (by as_aux_lemma => kernel_rfl) rfl rfl (og_callF1 rfl rfl (fun w hh => by have q := sl6Units_any (r := r) (pv := pv) (tv := tv) w (bounds_items (cls_sound hyes)) (bounds_lens (cls_sound hyes)).1 (Rd.stays h3 _ hh); rw [← unitsM_yes hyes] at q; exact q)) rfl (fun _ _ h => by exact h.drop 1) ?_; rintro vu hvu; try dsimp only)
       (refine GE.ol 4 (by as_aux_lemma => kernel_rfl) rfl rfl (og_callF0 rfl rfl (fun w hh => (l7Of_any (r := r) w (Rd.stays h3 _ hh) (Rd.stays h4 _ hh) hul (by exact Rd.owned 0 rfl _ hh)).toFn)) rfl (fun _ _ h => by exact h.drop 1) ?_; rintro ⟨⟩ _; try dsimp only)
       refine GE.q2 5 rfl (by as_aux_lemma => kernel_rfl) rfl (qg_runs (rv_fieldV 0 rfl (by kernel_rfl) rfl)) (fun _ h => by exact h.drop 1) rfl ?_
       refine GE.ol 12 (by as_aux_lemma => kernel_rfl) rfl rfl (og_callV rfl rfl (fun w hh => svolume_any (mst r).w (mst r).h (mst r).d w)) rfl (fun _ _ h => by exact h.drop 1) (fun _ _ => ?_)
       refine GE.ol 13 (by as_aux_lemma => kernel_rfl) rfl rfl (og_callV rfl rfl (fun w hh => l8Up_any _ _ w (by omega) (by omega) (by omega) (by omega))) rfl (fun _ _ h => by exact h.drop 1) (fun _ _ => ?_)
       refine GE.t 14 (by as_aux_lemma => kernel_rfl) rfl rfl rfl (og_runs (rv_assign rfl)) rfl (fun _ _ => ?_)
       refine GE.done (by as_aux_lemma => kernel_rfl) ?_
       refine G.thenN ?_
       refine G.ret ?_
       exact G.retFV rfl rfl (congrArg (Value.int .i64) (by rw [lowVolM, if_pos hyes]))
theorem slowerGram_any : FnV Tryz.prog 138 [.agg (r.cells pv tv iv).toArray, uv] w (.int .i64 (lowGramM r us)) := by
  have hvi := gram_in r us
  refine FnV.of (n := 24) Tryz.func138 rfl rfl ?_
  refine G.seq ?_
  refine G.region ?_
  refine G.op (og_box rfl rfl) rfl (fun bk2 _ => ?_)
  refine G.v (rv_assign rfl) rfl ?_
  refine G.done ?_
  refine G.thenN ?_
  refine G.seq ?_
  refine G.seq ?_
  refine G.region ?_
  (refine G.v (rv_loadW 0 rfl rfl rfl) rfl ?_)
  refine G.op (og_callV rfl rfl (fun w hh => sclass_any (r := r) w (Rd.stays h _ hh) (Rd.stays h2 _ hh) (Rd.stays h3 _ hh))) rfl (fun _ _ => ?_)
  refine G.v (rv_neq rfl rfl) rfl ?_
  refine G.done ?_
  refine G.thenN ?_
  refine G.cond rfl (fun hc => ?_) (fun hc => ?_)
  · try exact Bool.noConfusion hc
    all_goals
     try replace hc := of_decide_eq_true hc
     try (exfalso; contradiction)
     all_goals
      have hno : ¬ classM r = 0 := hc
      all_goals
       refine G.seq ?_
       refine G.region ?_
       refine G.v (rv_assign rfl) rfl ?_
       refine G.done ?_
       refine G.thenN ?_
       refine G.ret ?_
       refine G.thenR ?_
       exact G.retFV rfl rfl (congrArg (Value.int .i64) (by rw [lowGramM, if_neg hno]))
  · try exact Bool.noConfusion hc
    all_goals
     try replace hc := of_decide_eq_false hc
     try (exfalso; contradiction)
     all_goals
      have hyes : classM r = 0 := by omega
      have hmv := type_in (mst_ok hyes)
      all_goals
       refine G.skip ?_
       refine G.thenN ?_
       refine G.seq ?_
       refine G.region ?_
       (refine G.v (rv_loadW 0 rfl rfl rfl) rfl ?_)
       refine G.op (og_callV rfl rfl (fun w hh => smasterOf_any (r := r) w (Rd.stays h2 _ hh))) rfl (fun _ _ => ?_)
       refine G.v (rv_move rfl) rfl ?_
       refine G.v (rv_extract rfl rfl) rfl ?_
       refine G.v (rv_extract rfl rfl) rfl ?_
       refine G.op (og_alloc) rfl (fun bk5 _ => ?_)
       (refine G.op0 (og_st0 rfl rfl rfl rfl rfl rfl (.zero (.cons (.cons (.cons (.cons (.cons (.cons (.cons .nil))))))))) (fun _ _ => ?_))
       refine G.v (rv_assign rfl) rfl ?_
       refine G.done ?_
       refine G.thenN ?_
       refine G.seq ?_
       refine G.drawL [9] ?_
       (refine GE.q 0 rfl (by as_aux_lemma => kernel_rfl) rfl (qg_runs (rv_loadW 1 rfl rfl rfl)) rfl ?_)
       (refine GE.q 1 rfl (by as_aux_lemma => kernel_rfl) rfl (qg_runs (rv_loadW 1 rfl rfl rfl)) rfl ?_)
       refine GE.q 3 rfl (by as_aux_lemma => kernel_rfl) rfl (qg_runs (rv_move rfl)) rfl ?_
       (refine GE.q 6 rfl (by as_aux_lemma => kernel_rfl) rfl (qg_runs (rv_field rfl)) rfl ?_)
       (refine GE.q 7 rfl (by as_aux_lemma => kernel_rfl) rfl (qg_runs (rv_load1 0 rfl rfl rfl)) rfl ?_)
       (refine GE.ol 2 (by as_aux_lemma => kernel_rfl) rfl rfl (og_callF1 rfl rfl (fun w hh => by have q := sl6Units_any (r := r) (pv := pv) (tv := tv) w (bounds_items (cls_sound hyes)) (bounds_lens (cls_sound hyes)).1 (Rd.stays h3 _ hh); rw [← unitsM_yes hyes] at q; exact q)) rfl (fun _ _ h => by exact h.drop 1) ?_; rintro vu hvu; try dsimp only)
       (refine GE.ol 4 (by as_aux_lemma => kernel_rfl) rfl rfl (og_callF0 rfl rfl (fun w hh => (l7Of_any (r := r) w (Rd.stays h3 _ hh) (Rd.stays h4 _ hh) hul (by exact Rd.owned 0 rfl _ hh)).toFn)) rfl (fun _ _ h => by exact h.drop 1) ?_; rintro ⟨⟩ _; try dsimp only)
       refine GE.ol 5 (by as_aux_lemma => kernel_rfl) rfl rfl (og_runs (rv_fieldV 1 rfl (by kernel_rfl) rfl)) rfl (fun _ _ h => by exact h.drop 1) (fun _ _ => ?_)
       refine GE.ol 8 (by as_aux_lemma => kernel_rfl) rfl rfl (og_callV rfl rfl (fun w hh => l8Up_any (gramM r us) (mst r).g w (by omega) (by omega) (by omega) (by omega))) rfl (fun _ _ h => by exact h.drop 1) (fun _ _ => ?_)
       refine GE.t 9 (by as_aux_lemma => kernel_rfl) rfl rfl rfl (og_runs (rv_assign rfl)) rfl (fun _ _ => ?_)
       refine GE.done (by as_aux_lemma => kernel_rfl) ?_
       refine G.thenN ?_
       refine G.ret ?_
       exact G.retFV rfl rfl (congrArg (Value.int .i64) (by rw [lowGramM, if_pos hyes]))
theorem slowerGreat_any : FnV Tryz.prog 139 [.agg (r.cells pv tv iv).toArray, uv] w (.int .i64 (greatM r us)) := by
  refine FnV.of (n := 62) Tryz.func139 rfl rfl ?_
  refine G.seq ?_
  refine G.region ?_
  refine G.op (og_box rfl rfl) rfl (fun bk2 _ => ?_)
  refine G.v (rv_assign rfl) rfl ?_
  refine G.done ?_
  refine G.thenN ?_
  refine G.seq ?_
  refine G.seq ?_
  refine G.region ?_
  (refine G.v (rv_loadW 0 rfl rfl rfl) rfl ?_)
  refine G.op (og_callV rfl rfl (fun w hh => sclass_any (r := r) w (Rd.stays h _ hh) (Rd.stays h2 _ hh) (Rd.stays h3 _ hh))) rfl (fun _ _ => ?_)
  refine G.v (rv_neq rfl rfl) rfl ?_
  refine G.done ?_
  refine G.thenN ?_
  refine G.cond rfl (fun hc => ?_) (fun hc => ?_)
  · try exact Bool.noConfusion hc
    all_goals
     try replace hc := of_decide_eq_true hc
     try simp only [List.length_map] at hc
     try (exfalso; contradiction)
     all_goals
      have hno : ¬ classM r = 0 := hc
      all_goals
       refine G.seq ?_
       refine G.region ?_
       refine G.v (rv_assign rfl) rfl ?_
       refine G.done ?_
       refine G.thenN ?_
       refine G.ret ?_
       refine G.thenR ?_
       exact G.retFV rfl rfl (congrArg (Value.int .i64) (by rw [greatM, if_neg hno]))
  · try exact Bool.noConfusion hc
    all_goals
     try replace hc := of_decide_eq_false hc
     try simp only [List.length_map] at hc
     try (exfalso; contradiction)
     all_goals
      have hyes : classM r = 0 := by omega
      have hmv := type_vol (mst_ok hyes)
      have hmg := type_in (mst_ok hyes)
      all_goals
       refine G.skip ?_
       refine G.thenN ?_
       refine G.seq ?_
       refine G.region ?_
       (refine G.v (rv_loadW 0 rfl rfl rfl) rfl ?_)
       refine G.op (og_callV rfl rfl (fun w hh => smasterOf_any (r := r) w (Rd.stays h2 _ hh))) rfl (fun _ _ => ?_)
       refine G.v (rv_move rfl) rfl ?_
       refine G.v (rv_extract rfl rfl) rfl ?_
       refine G.v (rv_extract rfl rfl) rfl ?_
       refine G.op (og_alloc) rfl (fun bk5 _ => ?_)
       (refine G.op0 (og_st0 rfl rfl rfl rfl rfl rfl (.zero (.cons (.cons (.cons (.cons (.cons (.cons (.cons .nil))))))))) (fun _ _ => ?_))
       refine G.v (rv_assign rfl) rfl ?_
       refine G.done ?_
       refine G.thenN ?_
       refine G.seq ?_
       refine G.region ?_
       (refine G.v (rv_loadW 1 rfl rfl rfl) rfl ?_)
       (refine G.op (og_callF1 rfl rfl (fun w hh => by have q := sl6Units_any (r := r) (pv := pv) (tv := tv) w (bounds_items (cls_sound hyes)) (bounds_lens (cls_sound hyes)).1 (Rd.stays h3 _ hh); rw [← unitsM_yes hyes] at q; exact q)) rfl ?_; rintro vu hvu; try dsimp only)
       refine G.v (rv_assign rfl) rfl ?_
       refine G.done ?_
       refine G.thenN ?_
       refine G.seq ?_
       refine G.region ?_
       refine G.v (rv_assign rfl) rfl ?_
       refine G.done ?_
       refine G.thenN ?_
       refine G.seq ?_
       refine G.region ?_
       refine G.v (rv_assign rfl) rfl ?_
       refine G.done ?_
       refine G.thenN ?_
       refine G.seq ?_
       refine G.seq ?_
       refine G.region ?_
       refine G.v (rv_assign rfl) rfl ?_
       refine G.done ?_
       refine G.thenN ?_
       refine G.block ?_
       -- loop 0: turned [8, 9, 10], kept [1, 2, 5, 7]
       refine G.loopK (ι := Nat) (ks := [1, 2, 5, 7]) (fun k => [(8, .int .i64 ((us.take k).countP (fun u => decide (2 * vOf r u > volM (mst r).w (mst r).h (mst r).d)) : Int)), (9, .int .i64 ((us.take k).countP (fun u => decide (2 * gOf r u > (mst r).g)) : Int)), (10, .int .i64 k)]) (fun _ => []) (fun k => k ≤ us.length) (fun k => us.length - k) 0 (.cons rfl (.cons rfl (.cons rfl (.cons rfl (.nil))))) rfl ?_ ?_ ?_
       · exact Nat.zero_le _
       · exact ⟨rfl, rfl, rfl, trivial⟩
       rintro k hk
       have hc1 := List.countP_le_length (p := fun u => decide (2 * vOf r u > volM (mst r).w (mst r).h (mst r).d)) (l := us.take k)
       have hc2 := List.countP_le_length (p := fun u => decide (2 * gOf r u > (mst r).g)) (l := us.take k)
       rw [List.length_take, Nat.min_eq_left hk] at hc1 hc2
       by_cases hlt : k < us.length
       case' pos => (obtain ⟨u, hb⟩ := get_of_lt hlt; have e1 := get_map hb icell; have hv1 := volUS_one r u; have hg1 := gram_one r u; have hg2 := gOf_in r u; have hv2 := vOf_in r u; have hbit : ∀ b : Bool, 0 ≤ (if b then (1 : Int) else 0) ∧ (if b then (1 : Int) else 0) ≤ 1 := (fun b => by cases b <;> decide))
       all_goals
        refine G.seq ?_
        refine G.seq ?_
        refine G.region ?_
        refine G.v (rv_move rfl) rfl ?_
        refine G.v (rv_move rfl) rfl ?_
        refine G.v (rv_len rfl (by exact Rd.stays (by assumption))) rfl ?_
        refine G.v (rv_lss rfl rfl) rfl ?_
        refine G.done ?_
        refine G.thenN ?_
        refine G.cond rfl (fun hc => ?_) (fun hc => ?_)
        · try exact Bool.noConfusion hc
          all_goals
           try replace hc := of_decide_eq_true hc
           try simp only [List.length_map] at hc
           try (exfalso; omega)
           all_goals
            refine G.skip ?_
            refine G.thenN ?_
            refine G.seq ?_
            refine G.block ?_
            refine G.seq ?_
            refine G.drawL [9] ?_
            (refine GE.q 0 rfl (by as_aux_lemma => kernel_rfl) rfl (qg_runs (rv_loadW 2 rfl rfl rfl)) rfl ?_)
            refine GE.q 1 rfl (by as_aux_lemma => kernel_rfl) rfl (qg_runs (rv_move rfl)) rfl ?_
            refine GE.q 2 rfl (by as_aux_lemma => kernel_rfl) rfl (qg_runs (rv_move rfl)) rfl ?_
            refine GE.q 3 rfl (by as_aux_lemma => kernel_rfl) rfl (qg_runs (rv_move rfl)) rfl ?_
            refine GE.q 4 rfl (by as_aux_lemma => kernel_rfl) rfl (qg_runs (rv_move rfl)) rfl ?_
            (refine GE.q 5 rfl (by as_aux_lemma => kernel_rfl) rfl (qg_runs (rv_incr rfl rfl (by omega))) rfl ?_)
            refine GE.q 6 rfl (by as_aux_lemma => kernel_rfl) rfl (qg_runs (rv_sliceLH (l := k) (h := k + 1) rfl rfl rfl (by omega) (Rd.stays h4) (by omega) (by simp; omega))) rfl ?_
            refine GE.any (rs := [7, 8]) (by as_aux_lemma => kernel_rfl) (by simp) ?_
            refine List.forall_mem_cons.2 ⟨?_, List.forall_mem_cons.2 ⟨?_, fun _ h => absurd h List.not_mem_nil⟩⟩
            ·
              (refine GE.pickOp rfl rfl rfl (og_callF0 rfl rfl (fun w hh => (l7Of_any (r := r) (us := [u]) w (Rd.stays h3 _ hh) (by have q := (Rd.stays h4 _ hh).sub (l := k) (k := k + 1) (by omega) (by simp; omega); rw [one_sub hb] at q; exact q) (by simp) (by exact Rd.owned 0 rfl _ hh)).toFn)) rfl (fun _ _ h => by exact h) ?_; rintro ⟨⟩ _; try dsimp only)
              refine GE.ol 8 (by as_aux_lemma => kernel_rfl) rfl rfl (og_alloc) rfl (fun _ _ h => by exact h.drop 1) (fun bk11 _ => ?_)
              (refine GE.t0 9 (by as_aux_lemma => kernel_rfl) rfl rfl rfl (og_st0 rfl rfl rfl rfl rfl rfl (.zero (.cons (.cons .nil)))) (fun _ _ => ?_))
              refine GE.done (by as_aux_lemma => kernel_rfl) ?_
              refine G.thenN ?_
              refine G.seq ?_
              refine G.drawL [14] ?_
              refine GE.q 0 rfl (by as_aux_lemma => kernel_rfl) rfl (qg_runs (rv_move rfl)) rfl ?_
              (refine GE.q 1 rfl (by as_aux_lemma => kernel_rfl) rfl (qg_runs (rv_field rfl)) rfl ?_)
              (refine GE.q 2 rfl (by as_aux_lemma => kernel_rfl) rfl (qg_runs (rv_load1 0 rfl rfl rfl)) rfl ?_)
              refine GE.q 3 rfl (by as_aux_lemma => kernel_rfl) rfl (qg_runs (rv_mulB rfl rfl (by omega) (by omega))) rfl ?_
              (refine GE.q 4 rfl (by as_aux_lemma => kernel_rfl) rfl (qg_runs (rv_field rfl)) rfl ?_)
              (refine GE.q 5 rfl (by as_aux_lemma => kernel_rfl) rfl (qg_runs (rv_load1 2 rfl rfl rfl)) rfl ?_)
              (refine GE.q 6 rfl (by as_aux_lemma => kernel_rfl) rfl (qg_runs (rv_field rfl)) rfl ?_)
              (refine GE.q 7 rfl (by as_aux_lemma => kernel_rfl) rfl (qg_runs (rv_load1 2 rfl rfl rfl)) rfl ?_)
              (refine GE.ol 8 (by as_aux_lemma => kernel_rfl) rfl rfl (og_runs (rv_field rfl)) rfl (fun _ _ h => by exact h) (fun _ _ => ?_))
              (refine GE.ol 9 (by as_aux_lemma => kernel_rfl) rfl rfl (og_runs (rv_load1 2 rfl rfl rfl)) rfl (fun _ _ h => by exact h) (fun _ _ => ?_))
              refine GE.ol 10 (by as_aux_lemma => kernel_rfl) rfl rfl (og_callV rfl rfl (fun w hh => svolume_any (mst r).w (mst r).h (mst r).d w)) rfl (fun _ _ h => by exact h) (fun _ _ => ?_)
              refine GE.ol 11 (by as_aux_lemma => kernel_rfl) rfl rfl (og_runs (rv_gtr rfl rfl)) rfl (fun _ _ h => by exact h) (fun _ _ => ?_)
              refine GE.ol 12 (by as_aux_lemma => kernel_rfl) rfl rfl (og_callV rfl rfl (fun w _ => l1Bit_any _ w)) rfl (fun _ _ h => by exact h) (fun _ _ => ?_)
              have hb1 := hbit (decide (2 * volUS r [u] > volM (mst r).w (mst r).h (mst r).d))
              (refine GE.ol 13 (by as_aux_lemma => kernel_rfl) rfl rfl (og_runs (rv_addB rfl rfl (by omega) (by omega))) rfl (fun _ _ h => by exact h) (fun _ _ => ?_))
              refine GE.t 14 (by as_aux_lemma => kernel_rfl) rfl rfl rfl (og_runs (rv_assign rfl)) rfl (fun _ _ => ?_)
              refine GE.done (by as_aux_lemma => kernel_rfl) ?_
              refine G.thenN ?_
              refine G.region ?_
              refine G.v (rv_move rfl) rfl ?_
              (refine G.v (rv_field rfl) rfl ?_)
              (refine G.v (rv_load1 0 rfl rfl rfl) rfl ?_)
              refine G.v (rv_mulB rfl rfl (by omega) (by omega)) rfl ?_
              (refine G.v (rv_field rfl) rfl ?_)
              (refine G.v (rv_load1 2 rfl rfl rfl) rfl ?_)
              refine G.v (rv_gtr rfl rfl) rfl ?_
              refine G.op (og_callV rfl rfl (fun w _ => l1Bit_any _ w)) rfl (fun _ _ => ?_)
              have hb2 := hbit (decide (2 * gramM r [u] > (mst r).g))
              (refine G.v (rv_addB rfl rfl (by omega) (by omega)) rfl ?_)
              refine G.v (rv_assign rfl) rfl ?_
              refine G.done ?_
              refine G.inN ?_
              refine G.thenN ?_
              refine G.region ?_
              refine G.v (rv_move rfl) rfl ?_
              (refine G.v (rv_incr rfl rfl (by omega)) rfl ?_)
              refine G.v (rv_assign rfl) rfl ?_
              refine G.done ?_
              refine G.backK (k + 1) 1 rfl (.cons rfl (.cons rfl (.cons rfl (.cons rfl (.nil))))) ?_ ?_ ?_
              · exact ⟨congrArg (fun z => some (Value.int .i64 z)) (by rw [cnt_nextU hb, hv1]), congrArg (fun z => some (Value.int .i64 z)) (by rw [cnt_nextU hb, hg1]; rfl), rfl, trivial⟩
              · exact hlt
              · omega
            ·
              refine GE.pickOp rfl rfl rfl (og_alloc) rfl (fun _ _ h => by exact h.drop 1) (fun bk11 _ => ?_)
              (refine GE.ol 7 (by as_aux_lemma => kernel_rfl) rfl rfl (og_callF0 rfl rfl (fun w hh => (l7Of_any (r := r) (us := [u]) w (Rd.stays h3 _ hh) (by have q := (Rd.stays h4 _ hh).sub (l := k) (k := k + 1) (by omega) (by simp; omega); rw [one_sub hb] at q; exact q) (by simp) (by exact Rd.owned 1 rfl _ hh)).toFn)) rfl (fun _ _ h => by exact h.drop 1) ?_; rintro ⟨⟩ _; try dsimp only)
              (refine GE.t0 9 (by as_aux_lemma => kernel_rfl) rfl rfl rfl (og_st0 rfl rfl rfl rfl rfl rfl (.zero (.cons (.cons .nil)))) (fun _ _ => ?_))
              refine GE.done (by as_aux_lemma => kernel_rfl) ?_
              refine G.thenN ?_
              refine G.seq ?_
              refine G.drawL [14] ?_
              refine GE.q 0 rfl (by as_aux_lemma => kernel_rfl) rfl (qg_runs (rv_move rfl)) rfl ?_
              (refine GE.q 1 rfl (by as_aux_lemma => kernel_rfl) rfl (qg_runs (rv_field rfl)) rfl ?_)
              (refine GE.q 2 rfl (by as_aux_lemma => kernel_rfl) rfl (qg_runs (rv_load1 0 rfl rfl rfl)) rfl ?_)
              refine GE.q 3 rfl (by as_aux_lemma => kernel_rfl) rfl (qg_runs (rv_mulB rfl rfl (by omega) (by omega))) rfl ?_
              (refine GE.q 4 rfl (by as_aux_lemma => kernel_rfl) rfl (qg_runs (rv_field rfl)) rfl ?_)
              (refine GE.q 5 rfl (by as_aux_lemma => kernel_rfl) rfl (qg_runs (rv_load1 2 rfl rfl rfl)) rfl ?_)
              (refine GE.q 6 rfl (by as_aux_lemma => kernel_rfl) rfl (qg_runs (rv_field rfl)) rfl ?_)
              (refine GE.q 7 rfl (by as_aux_lemma => kernel_rfl) rfl (qg_runs (rv_load1 2 rfl rfl rfl)) rfl ?_)
              (refine GE.ol 8 (by as_aux_lemma => kernel_rfl) rfl rfl (og_runs (rv_field rfl)) rfl (fun _ _ h => by exact h) (fun _ _ => ?_))
              (refine GE.ol 9 (by as_aux_lemma => kernel_rfl) rfl rfl (og_runs (rv_load1 2 rfl rfl rfl)) rfl (fun _ _ h => by exact h) (fun _ _ => ?_))
              refine GE.ol 10 (by as_aux_lemma => kernel_rfl) rfl rfl (og_callV rfl rfl (fun w hh => svolume_any (mst r).w (mst r).h (mst r).d w)) rfl (fun _ _ h => by exact h) (fun _ _ => ?_)
              refine GE.ol 11 (by as_aux_lemma => kernel_rfl) rfl rfl (og_runs (rv_gtr rfl rfl)) rfl (fun _ _ h => by exact h) (fun _ _ => ?_)
              refine GE.ol 12 (by as_aux_lemma => kernel_rfl) rfl rfl (og_callV rfl rfl (fun w _ => l1Bit_any _ w)) rfl (fun _ _ h => by exact h) (fun _ _ => ?_)
              have hb1 := hbit (decide (2 * volUS r [u] > volM (mst r).w (mst r).h (mst r).d))
              (refine GE.ol 13 (by as_aux_lemma => kernel_rfl) rfl rfl (og_runs (rv_addB rfl rfl (by omega) (by omega))) rfl (fun _ _ h => by exact h) (fun _ _ => ?_))
              refine GE.t 14 (by as_aux_lemma => kernel_rfl) rfl rfl rfl (og_runs (rv_assign rfl)) rfl (fun _ _ => ?_)
              refine GE.done (by as_aux_lemma => kernel_rfl) ?_
              refine G.thenN ?_
              refine G.region ?_
              refine G.v (rv_move rfl) rfl ?_
              (refine G.v (rv_field rfl) rfl ?_)
              (refine G.v (rv_load1 0 rfl rfl rfl) rfl ?_)
              refine G.v (rv_mulB rfl rfl (by omega) (by omega)) rfl ?_
              (refine G.v (rv_field rfl) rfl ?_)
              (refine G.v (rv_load1 2 rfl rfl rfl) rfl ?_)
              refine G.v (rv_gtr rfl rfl) rfl ?_
              refine G.op (og_callV rfl rfl (fun w _ => l1Bit_any _ w)) rfl (fun _ _ => ?_)
              have hb2 := hbit (decide (2 * gramM r [u] > (mst r).g))
              (refine G.v (rv_addB rfl rfl (by omega) (by omega)) rfl ?_)
              refine G.v (rv_assign rfl) rfl ?_
              refine G.done ?_
              refine G.inN ?_
              refine G.thenN ?_
              refine G.region ?_
              refine G.v (rv_move rfl) rfl ?_
              (refine G.v (rv_incr rfl rfl (by omega)) rfl ?_)
              refine G.v (rv_assign rfl) rfl ?_
              refine G.done ?_
              refine G.backK (k + 1) 1 rfl (.cons rfl (.cons rfl (.cons rfl (.cons rfl (.nil))))) ?_ ?_ ?_
              · exact ⟨congrArg (fun z => some (Value.int .i64 z)) (by rw [cnt_nextU hb, hv1]), congrArg (fun z => some (Value.int .i64 z)) (by rw [cnt_nextU hb, hg1]; rfl), rfl, trivial⟩
              · exact hlt
              · omega
        · try exact Bool.noConfusion hc
          all_goals
           try replace hc := of_decide_eq_false hc
           try simp only [List.length_map] at hc
           try (exfalso; omega)
           all_goals
            refine G.exit ?_
            refine G.thenX ?_
            refine G.thenX ?_
            refine G.inX ?_
            refine G.thenN ?_
            refine G.seq ?_
            refine G.region ?_
            refine G.v (rv_move rfl) rfl ?_
            refine G.v (rv_move rfl) rfl ?_
            refine G.op (og_callV rfl rfl (fun w _ => l1Max_any _ _ w)) rfl (fun _ _ => ?_)
            refine G.v (rv_assign rfl) rfl ?_
            refine G.done ?_
            refine G.thenN ?_
            refine G.ret ?_
            (exact G.retFV rfl rfl (congrArg (Value.int .i64) (by rw [greatM, if_pos hyes, take_all (by omega), cnt_items vI _ (by omega) (vOf r) (fun _ => rfl), cnt_items ItemM.g _ (by omega) (gOf r) (fun _ => rfl)]; rfl)))
theorem slower_any : FnV Tryz.prog 65 [.agg (r.cells pv tv iv).toArray, uv] w (.int .i64 (lowM r us)) := by
  refine FnV.of (n := 16) Tryz.func65 rfl rfl ?_
  refine G.seq ?_
  refine G.region ?_
  refine G.op (og_box rfl rfl) rfl (fun bk2 _ => ?_)
  refine G.v (rv_assign rfl) rfl ?_
  refine G.done ?_
  refine G.thenN ?_
  refine G.seq ?_
  refine G.drawL [11] ?_
  (refine GE.q 0 rfl (by as_aux_lemma => kernel_rfl) rfl (qg_runs (rv_loadW 0 rfl rfl rfl)) rfl ?_)
  refine GE.q 1 rfl (by as_aux_lemma => kernel_rfl) rfl (qg_runs (rv_move rfl)) rfl ?_
  refine GE.q 2 rfl (by as_aux_lemma => kernel_rfl) rfl (qg_call rfl rfl (fun w hh => slowerVolume_any (r := r) w (Rd.stays h _ hh) (Rd.stays h2 _ hh) (Rd.stays h3 _ hh) (Rd.stays h4 _ hh) hul)) rfl ?_
  (refine GE.q 3 rfl (by as_aux_lemma => kernel_rfl) rfl (qg_runs (rv_loadW 0 rfl rfl rfl)) rfl ?_)
  refine GE.q 4 rfl (by as_aux_lemma => kernel_rfl) rfl (qg_runs (rv_move rfl)) rfl ?_
  refine GE.q 5 rfl (by as_aux_lemma => kernel_rfl) rfl (qg_call rfl rfl (fun w hh => slowerGram_any (r := r) w (Rd.stays h _ hh) (Rd.stays h2 _ hh) (Rd.stays h3 _ hh) (Rd.stays h4 _ hh) hul)) rfl ?_
  refine GE.q 6 rfl (by as_aux_lemma => kernel_rfl) rfl (qg_call rfl rfl (fun w _ => l1Max_any _ _ w)) rfl ?_
  (refine GE.q 7 rfl (by as_aux_lemma => kernel_rfl) rfl (qg_runs (rv_loadW 0 rfl rfl rfl)) rfl ?_)
  refine GE.ol 8 (by as_aux_lemma => kernel_rfl) rfl rfl (og_runs (rv_move rfl)) rfl (fun _ _ h => by exact h) (fun _ _ => ?_)
  refine GE.ol 9 (by as_aux_lemma => kernel_rfl) rfl rfl (og_callV rfl rfl (fun w hh => slowerGreat_any (r := r) w (Rd.stays h _ hh) (Rd.stays h2 _ hh) (Rd.stays h3 _ hh) (Rd.stays h4 _ hh) hul)) rfl (fun _ _ h => by exact h) (fun _ _ => ?_)
  refine GE.ol 10 (by as_aux_lemma => kernel_rfl) rfl rfl (og_callV rfl rfl (fun w _ => l1Max_any _ _ w)) rfl (fun _ _ h => by exact h) (fun _ _ => ?_)
  refine GE.t 11 (by as_aux_lemma => kernel_rfl) rfl rfl rfl (og_runs (rv_assign rfl)) rfl (fun _ _ => ?_)
  refine GE.done (by as_aux_lemma => kernel_rfl) ?_
  refine G.thenN ?_
  refine G.ret ?_
  exact G.retFV rfl rfl rfl
end
end Go.Proofs.YtibkggjbkgdnkaaGreat

/-
  Kinds that are put into groups: the program's way.
-/
namespace Go.Proofs.YtibkggjbkgdnkaaGreat
open Go.RowKit
attribute [local irreducible] Go.wpList Go.Code.wp Go.Exit.then Go.Exit.inBlock Go.bodyPost Go.Calls pE pB G RunsV FnV Fn FnM
set_option maxRecDepth 100000
set_option maxHeartbeats 4000000
theorem idx_neg {α : Type} {p : α → Bool} {l : List α} (h : idxM p l < 0) : l.any p = false := by
  rcases idx_cases p l with ⟨_, e⟩ | ⟨k, b, e, _⟩
  · exact e
  · omega
theorem idx_pos {α : Type} {p : α → Bool} {l : List α} (h : ¬ idxM p l < 0) : ∃ (k : Nat) (b : α), idxM p l = (k : Int) ∧ l[k]? = some b ∧ p b = true ∧ (l.take k).any p = false := by
  rcases idx_cases p l with ⟨e, _⟩ | h2
  · omega
  · exact h2
theorem any_fst {p : List Int → Bool} {ts : List (List Int × Value)} : (ts.map Prod.fst).any p = ts.any (fun b => p b.1) := by rw [List.any_map]; rfl
theorem put_push {p : List Int → Bool} {ts : List (List Int × Value)} {x : Int} {v : Value} (h : ts.any (fun b => p b.1) = false) : putM p (ts.map Prod.fst) x = (ts ++ [([x], v)]).map Prod.fst := by
  rw [put_no (by rw [any_fst]; exact h), List.map_append]; rfl
theorem put_into {p : List Int → Bool} {ts : List (List Int × Value)} {x : Int} {q : Nat} {b : List Int × Value} {v : Value} (hb : ts[q]? = some b) (hp : p b.1 = true) (h : (ts.take q).any (fun b => p b.1) = false) : putM p (ts.map Prod.fst) x = (ts.set q (b.1 ++ [x], v)).map Prod.fst := by
  rw [put_at (k := q) (b := b.1) (by rw [← List.map_take, any_fst]; exact h) (by rw [List.getElem?_map, hb]; rfl) hp, List.map_set]
theorem push_sub {ts : List (List Int × Value)} {x : Int} {v : Value} : (ts.map (sub id)) ++ [(v, [[Value.int .i64 x]])] = (ts ++ [([x], v)]).map (sub id) := by
  rw [List.map_append]; rfl
theorem push_g {ts : List (List Int × Value)} {x : Int} {v : Value} : ts.map gcell ++ [[v]] = (ts ++ [([x], v)]).map gcell := by
  rw [List.map_append]; rfl
theorem into_sub {ts : List (List Int × Value)} {x : Int} {q : Nat} {b : List Int × Value} {v : Value} : (ts.map (sub id)).set q (v, b.1.map icell ++ [[Value.int .i64 x]]) = (ts.set q (b.1 ++ [x], v)).map (sub id) := by
  rw [List.map_set]; simp [sub, icell]
theorem into_g {ts : List (List Int × Value)} {x : Int} {q : Nat} {b : List Int × Value} {v : Value} : (ts.map gcell).set q [v] = (ts.set q (b.1 ++ [x], v)).map gcell := by
  rw [List.map_set]; rfl
theorem GE.know {P : Program} {ops : Array Oper} {Q : Exit → Act → World → Prop} {qs : List Nat} {n : Nat} {w0 : World} {HC : List Ch} {f : Nat} {listed : Array Bool} {fr : Fr} {H : List Ch} {p : Prop} (hp : ∀ w, HeapOk w0 w H → p) (h : p → GE P ops Q qs n w0 HC f listed fr H) : GE P ops Q qs n w0 HC f listed fr H := G.know hp h
theorem groups_any {ps : List PairM} {pv uv : Value} {l : List Int} (w : World) (h : Rd w pv 2 (ps.map PairM.cells)) (h2 : Rd w uv 1 (l.map icell)) (hasc : l.Pairwise (· < ·)) (hin : ∀ x ∈ l, 0 ≤ x ∧ x ≤ 3) (hn : l.length ≤ 4) :
    Fn Tryz.prog 83 [pv, uv] w (fun x : Value × List (List Int × Value) => x.1.oneCell' = true ∧ x.2.map Prod.fst = groupsM ps l) (fun x => x.1) (fun x => [.grp 3 1 (x.2.map (sub id)), .row x.1 44 1 (x.2.map gcell)]) := by
  have hln : (l.map icell).length = l.length := by simp
  have hov : pv.oneCell' = true := h.one_
  refine Fn.of (n := 42) Tryz.func83 rfl rfl ?_
  refine G.seq ?_
  refine G.region ?_
  refine G.op (og_box rfl (cells_one (by assumption))) rfl (fun bk2 _ => ?_)
  refine G.v (rv_assign rfl) rfl ?_
  refine G.done ?_
  refine G.thenN ?_
  refine G.seq ?_
  refine G.region ?_
  refine G.op (og_lit rfl .nil rfl rfl rfl rfl rfl rfl) rfl (fun vl _ => ?_)
  refine G.v (rv_assign rfl) rfl ?_
  refine G.done ?_
  refine G.thenN ?_
  refine G.seq ?_
  refine G.seq ?_
  refine G.region ?_
  refine G.v (rv_move rfl) rfl ?_
  (refine G.op (og_callF1 rfl rfl (fun w hh => by have q := kinds_any (l := l) w (Rd.stays h2 _ hh) (by omega); rw [dd_sorted hasc] at q; exact q)) rfl ?_; rintro vk hvk; try dsimp only)
  refine G.v (rv_len rfl (by exact Rd.owned 0 rfl)) rfl ?_
  refine G.v (rv_move rfl) rfl ?_
  refine G.done ?_
  refine G.thenN ?_
  refine G.block ?_
  -- loop 0: turned [5, 13], kept [2, 11, 12]
  (refine G.frontR1 vl rfl ?_)
  refine G.heap (fun w hh => hh.nilGrp 3 1) ?_
  refine G.loopK (ι := Nat × List (List Int × Value) × Value) (ks := [2, 11, 12]) (fun x => [(5, x.2.2), (13, .int .i64 (x.1 : Int))]) (fun x => [.grp 3 1 (x.2.1.map (sub id)), .row x.2.2 44 1 (x.2.1.map gcell)]) (fun x => x.1 ≤ l.length ∧ x.2.1.map Prod.fst = groupsM ps (l.take x.1)) (fun x => l.length - x.1) (0, [], vl) (.cons rfl (.cons rfl (.cons rfl (.nil)))) rfl ?_ ?_ ?_
  · exact ⟨Nat.zero_le _, rfl⟩
  · exact ⟨rfl, rfl, trivial⟩
  rintro ⟨k, ts, v2⟩ ⟨hk, hM⟩
  dsimp only at hk hM ⊢
  have hl0 : (ts.map gcell).length = ts.length := (by simp)
  have htl : ts.length ≤ k := (by have := putAll_len (fun g x => joinsM ps g x) (l.take k); have e2 := congrArg List.length hM; rw [List.length_map] at e2; rw [groupsM] at e2; rw [List.length_take] at this; omega)
  by_cases hlt : k < l.length
  case' pos => (obtain ⟨x, hx⟩ := get_of_lt hlt; have he := get_map hx icell; have hxr := hin x (List.mem_of_getElem? hx); have hxi : inB x 0 3 = true := (by simp only [inB, Bool.and_eq_true, decide_eq_true_eq]; omega))
  all_goals
   refine G.seq ?_
   refine G.region ?_
   refine G.v (rv_lss rfl rfl) rfl ?_
   refine G.done ?_
   refine G.thenN ?_
   refine G.seq ?_
   refine G.cond rfl (fun hc => ?_) (fun hc => ?_)
   · try exact Bool.noConfusion hc
     all_goals
      try replace hc := of_decide_eq_true hc
      try simp only [List.length_map] at hc
      try (exfalso; omega)
      all_goals
       refine G.skip ?_
       refine G.thenN ?_
       refine G.seq ?_
       refine G.block ?_
       refine G.seq ?_
       refine G.region ?_
       (refine G.v (rv_indexH rfl rfl (by exact Rd.owned 2 rfl) rfl (by exact he)) rfl ?_)
       refine G.v (rv_loadE rfl (by exact Rd.owned 2 rfl) (by exact he) rfl) rfl ?_
       refine G.op (og_alloc) rfl (fun bk7 _ => ?_)
       (refine G.op0 (og_st0 rfl rfl rfl rfl rfl rfl (.zero (.cons .nil))) (fun _ _ => ?_))
       refine G.done ?_
       refine G.thenN ?_
       refine G.seq ?_
       refine G.seq ?_
       refine G.region ?_
       (refine G.v (rv_load1 0 rfl rfl rfl) rfl ?_)
       refine G.op (og_callV rfl rfl (fun w _ => in_any _ _ _ w)) rfl (fun _ _ => ?_)
       refine G.v (rv_not rfl) rfl ?_
       refine G.done ?_
       refine G.thenN ?_
       refine G.cond rfl (fun hc => ?_) (fun hc => ?_)
       · try exact Bool.noConfusion hc
         all_goals
          try replace hc := of_decide_eq_true hc
          try simp only [List.length_map] at hc
          try (exfalso; contradiction)
          all_goals
           exfalso; simp [hxi] at hc
       · try exact Bool.noConfusion hc
         all_goals
          try replace hc := of_decide_eq_false hc
          try simp only [List.length_map] at hc
          try (exfalso; contradiction)
          all_goals
           refine G.skip ?_
           refine G.thenN ?_
           refine G.seq ?_
           refine G.region ?_
           refine G.v (rv_move rfl) rfl ?_
           refine G.v (rv_makeFunc rfl rfl) rfl ?_
           refine G.op (og_callV rfl rfl (fun w hh => indexTbl_any (l := ts) (p := fun g => joinsM ps g x) w (by exact Rd.owned 2 rfl _ hh) (fun w' j b hw hb => groups1_any (ps := ps) (pv := pv) x w' (Rd.stays (Rd.stays h _ hh) w' hw) (Rd.stays (Subs.at (by exact Subs.owned 1 rfl _ hh) hb) w' hw) (Rd.stays (by exact Rd.ofBlk 4 rfl (one_cons hov rfl) w hh) w' hw) (Rd.stays (by exact Rd.ofBlk 0 rfl rfl w hh) w' hw)))) rfl (fun _ _ => ?_)
           refine G.v (rv_assign rfl) rfl ?_
           refine G.done ?_
           refine G.thenN ?_
           refine G.seq ?_
           refine G.region ?_
           refine G.v (rv_move rfl) rfl ?_
           refine G.v (rv_lss rfl rfl) rfl ?_
           refine G.done ?_
           refine G.thenN ?_
           refine G.cond rfl (fun hc => ?_) (fun hc => ?_)
           · try exact Bool.noConfusion hc
             all_goals
              try replace hc := of_decide_eq_true hc
              try simp only [List.length_map] at hc
              try (exfalso; contradiction)
              all_goals
               have hno := idx_neg hc
               skip
               all_goals
                refine G.region ?_
                refine G.v (rv_move rfl) rfl ?_
                (refine G.v (rv_load1 0 rfl rfl rfl) rfl ?_)
                refine G.op (og_lit rfl (.cons rfl .nil) rfl rfl rfl rfl rfl rfl) rfl (fun vl _ => ?_)
                refine G.know (fun w hw => (Rd.owned 0 rfl w hw).one_) (fun hovl => ?_)
                refine G.op (og_lit rfl (.cons (cells_one (by assumption)) .nil) (by simp only [List.all_cons, List.all_nil, Bool.and_true, Bool.and_eq_true]; exact ⟨rfl, by assumption⟩) rfl rfl rfl rfl rfl) rfl (fun vm _ => ?_)
                ((refine G.op (og_app4 rfl rfl rfl (by exact Rd.owned 0 rfl) rfl rfl (by simp; omega) (by simp; omega)) rfl (fun va _ => ?_)))
                (refine G.frontG3 _ rfl ?_)
                (refine G.frontR2 vl rfl ?_)
                refine G.pushRow _ push_sub rfl ?_
                refine G.v (rv_assign rfl) rfl ?_
                refine G.done ?_
                refine G.inN ?_
                refine G.thenN ?_
                refine G.region ?_
                (refine G.v (rv_incr rfl rfl (by omega)) rfl ?_)
                refine G.v (rv_move rfl) rfl ?_
                refine G.done ?_
                (refine G.frontR3 va rfl ?_)
                (refine G.frontG1 _ rfl ?_)
                (refine G.keep2 2 rfl ?_; refine G.backK (k + 1, ts ++ [([x], vl)], va) 0 (by exact two_eq (congrArg (fun z => Ch.grp 3 1 z) rfl) (congrArg (fun z => Ch.row va 44 1 z) push_g)) (.cons rfl (.cons rfl (.cons rfl (.nil)))) ?_ ?_ ?_)
                · exact ⟨rfl, rfl, trivial⟩
                · (exact ⟨hlt, by rw [groupsM, putAll_next hx, ← groupsM, ← hM]; exact (put_push (p := fun g => joinsM ps g x) hno).symm⟩)
                · dsimp only; omega
           · try exact Bool.noConfusion hc
             all_goals
              try replace hc := of_decide_eq_false hc
              try simp only [List.length_map] at hc
              try (exfalso; contradiction)
              all_goals
               obtain ⟨q, b, hq, hqb, hpb, hbt⟩ := idx_pos hc
               have heq := get_map hqb gcell
               have hgi : (ts.map (sub id))[q]? = some (b.2, b.1.map icell) := get_mapS hqb
               have hbl : b.1.length ≤ k := (by have := (putAll_at (p := fun g x => joinsM ps g x) (l := l.take k) (q := q) (g := b.1) (by show (groupsM ps (l.take k))[q]? = _; rw [← hM, List.getElem?_map, hqb]; rfl)); rw [List.length_take] at this; omega)
               all_goals
                refine G.frontG1 _ rfl ?_
                refine G.drawD1 [9, 10] rfl ?_
                refine GE.q2 0 rfl (by as_aux_lemma => kernel_rfl) rfl (qg_runs (rv_move rfl)) (fun _ h => by exact h.drop 1) rfl ?_
                refine GE.q2 1 rfl (by as_aux_lemma => kernel_rfl) rfl (qg_runs (rv_move rfl)) (fun _ h => by exact h.drop 1) rfl ?_
                refine GE.q2 2 rfl (by as_aux_lemma => kernel_rfl) rfl (qg_runs (rv_move rfl)) (fun _ h => by exact h.drop 1) rfl ?_
                refine GE.q2 3 rfl (by as_aux_lemma => kernel_rfl) rfl (qg_runs (rv_move rfl)) (fun _ h => by exact h.drop 1) rfl ?_
                (refine GE.q2 4 rfl (by as_aux_lemma => kernel_rfl) rfl (qg_runs (rv_indexH (k := q) rfl rfl (by exact Rd.owned 1 rfl) (by omega) heq)) (fun _ h => by exact h.drop 1) rfl ?_)
                refine GE.q2 5 rfl (by as_aux_lemma => kernel_rfl) rfl (qg_runs (rv_loadE rfl (by exact Rd.owned 1 rfl) (by exact heq) rfl)) (fun _ h => by exact h.drop 1) rfl ?_
                (refine GE.ol 6 (by as_aux_lemma => kernel_rfl) rfl rfl (og_runs (rv_load1 1 rfl rfl rfl)) rfl (fun _ _ h => by exact h.drop 1) (fun _ _ => ?_))
                refine GE.ol 7 (by as_aux_lemma => kernel_rfl) rfl rfl (og_lit rfl (.cons rfl .nil) rfl rfl rfl rfl rfl rfl) rfl (fun _ _ h => by exact h.drop 2) (fun vl _ => ?_)
                ((refine GE.ol 8 (by as_aux_lemma => kernel_rfl) rfl rfl (og_appG1 rfl rfl rfl hgi (by exact Rd.owned 0 rfl) rfl rfl (by simp; omega) (by simp; omega)) rfl (fun _ _ h => by exact h.drop 2) (fun vb _ => ?_)))
                skip; refine GE.know (fun w hw => (Rd.grp 1 rfl (List.mem_of_getElem? (get_set1 hgi)) w hw).one_) (fun hova => ?_)
                (refine GE.t 9 (by as_aux_lemma => kernel_rfl) rfl rfl rfl (og_runs (rv_indexH (k := q) rfl rfl (by exact Rd.owned 3 rfl) (by omega) heq)) rfl (fun _ _ => ?_))
                (refine GE.t0 10 (by as_aux_lemma => kernel_rfl) rfl rfl rfl (og_stE3 rfl rfl rfl (by exact heq) (cells_one (by assumption)) rfl (by repeat (first | rfl | refine one_cons (by assumption) ?_)) rfl (.zero (.cons .nil))) (fun _ _ => ?_))
                refine GE.done (by as_aux_lemma => kernel_rfl) ?_
                refine G.inN ?_
                refine G.thenN ?_
                refine G.region ?_
                (refine G.v (rv_incr rfl rfl (by omega)) rfl ?_)
                refine G.v (rv_move rfl) rfl ?_
                refine G.done ?_
                (refine G.frontR3 v2 rfl ?_)
                (refine G.frontG2 _ rfl ?_)
                (refine G.keep2 2 rfl ?_; refine G.backK (k + 1, ts.set q (b.1 ++ [x], vb), v2) 0 (by exact two_eq (congrArg (fun z => Ch.grp 3 1 z) into_sub) (congrArg (fun z => Ch.row v2 44 1 z) into_g)) (.cons rfl (.cons rfl (.cons rfl (.nil)))) ?_ ?_ ?_)
                · exact ⟨rfl, rfl, trivial⟩
                · (exact ⟨hlt, by rw [groupsM, putAll_next hx, ← groupsM, ← hM]; exact (put_into (p := fun g => joinsM ps g x) hqb hpb hbt).symm⟩)
                · dsimp only; omega
   · try exact Bool.noConfusion hc
     all_goals
      try replace hc := of_decide_eq_false hc
      try simp only [List.length_map] at hc
      try (exfalso; omega)
      all_goals
       refine G.exit ?_
       refine G.thenX ?_
       refine G.thenX ?_
       refine G.inX ?_
       refine G.thenN ?_
       refine G.seq ?_
       refine G.region ?_
       refine G.v (rv_move rfl) rfl ?_
       refine G.v (rv_assign rfl) rfl ?_
       refine G.done ?_
       refine G.thenN ?_
       refine G.ret ?_
       refine G.know (fun w hw => (Rd.owned 1 rfl w hw).one_) (fun hone => G.retF (v2, ts) ⟨hone, by rw [take_all (l := l) (by omega)] at hM; exact hM⟩ rfl rfl rfl (fun w hw => hw.sublist (by repeat (first | exact List.Sublist.refl _ | refine List.Sublist.cons_cons _ ?_ | refine List.Sublist.cons _ ?_))))
end Go.Proofs.YtibkggjbkgdnkaaGreat

/-
  Kinds that are put into groups: the reference's way.
-/
namespace Go.Proofs.YtibkggjbkgdnkaaGreat
open Go.RowKit
attribute [local irreducible] Go.wpList Go.Code.wp Go.Exit.then Go.Exit.inBlock Go.bodyPost Go.Calls pE pB G RunsV FnV Fn FnM
set_option maxRecDepth 100000
set_option maxHeartbeats 4000000
theorem below_yes {l : List Int} {n : Nat} (h : hasM l (n : Int) = true) : below l (n + 1) = below l n ++ [(n : Int)] := by rw [below_next, if_pos h]
theorem below_no {l : List Int} {n : Nat} (h : hasM l (n : Int) = false) : below l (n + 1) = below l n := by rw [below_next, if_neg (by rw [h]; decide), List.append_nil]
theorem sgroups_any {ps : List PairM} {pv uv : Value} {l : List Int} (w : World) (h : Rd w pv 2 (ps.map PairM.cells)) (h2 : Rd w uv 1 (l.map icell)) (hasc : l.Pairwise (· < ·)) (hin : ∀ x ∈ l, 0 ≤ x ∧ x ≤ 3) :
    Fn Tryz.prog 76 [pv, uv] w (fun x : Value × List (List Int × Value) => x.1.oneCell' = true ∧ x.2.map Prod.fst = groupsM ps l) (fun x => x.1) (fun x => [.grp 3 1 (x.2.map (sub id)), .row x.1 44 1 (x.2.map gcell)]) := by
  refine Fn.of (n := 51) Tryz.func76 rfl rfl ?_
  refine G.seq ?_
  refine G.region ?_
  refine G.v (rv_assign rfl) rfl ?_
  refine G.done ?_
  refine G.thenN ?_
  refine G.seq ?_
  refine G.region ?_
  refine G.op (og_lit rfl .nil rfl rfl rfl rfl rfl rfl) rfl (fun vl _ => ?_)
  refine G.v (rv_assign rfl) rfl ?_
  refine G.done ?_
  refine G.thenN ?_
  refine G.seq ?_
  refine G.seq ?_
  refine G.region ?_
  refine G.v (rv_assign rfl) rfl ?_
  refine G.done ?_
  refine G.thenN ?_
  refine G.block ?_
  -- loop 0: turned [5, 6], kept [0, 1]
  refine G.heap (fun w hh => hh.nilGrp 3 1) ?_
  refine G.loopK (ι := Nat × List (List Int × Value) × Value) (ks := [0, 1]) (fun x => [(5, x.2.2), (6, .int .i64 (x.1 : Int))]) (fun x => [.grp 3 1 (x.2.1.map (sub id)), .row x.2.2 44 1 (x.2.1.map gcell)]) (fun x => x.1 ≤ 4 ∧ x.2.1.map Prod.fst = groupsM ps (below l x.1)) (fun x => 4 - x.1) (0, [], vl) (.cons rfl (.cons rfl (.nil))) rfl ?_ ?_ ?_
  · exact ⟨Nat.zero_le _, rfl⟩
  · exact ⟨rfl, rfl, trivial⟩
  rintro ⟨c, ts, v2⟩ ⟨hk, hM⟩
  dsimp only at hk hM ⊢
  have hl0 : (ts.map gcell).length = ts.length := (by simp)
  have htl : ts.length ≤ 4 := (by have := putAll_len (fun g x => joinsM ps g x) (below l c); have e2 := congrArg List.length hM; rw [List.length_map] at e2; rw [groupsM] at e2; have := below_len l c; omega)
  all_goals
   refine G.seq ?_
   refine G.seq ?_
   refine G.region ?_
   refine G.v (rv_move rfl) rfl ?_
   refine G.v (rv_lss rfl rfl) rfl ?_
   refine G.done ?_
   refine G.thenN ?_
   refine G.cond rfl (fun hc => ?_) (fun hc => ?_)
   · try exact Bool.noConfusion hc
     all_goals
      try replace hc := of_decide_eq_true hc
      try simp only [List.length_map] at hc
      try (exfalso; contradiction)
      all_goals
       refine G.skip ?_
       refine G.thenN ?_
       refine G.seq ?_
       refine G.block ?_
       refine G.seq ?_
       refine G.seq ?_
       refine G.region ?_
       refine G.v (rv_move rfl) rfl ?_
       refine G.v (rv_move rfl) rfl ?_
       refine G.op (og_callV rfl rfl (fun w hh => l1Has_any _ w (by exact Rd.stays (by assumption) _ hh))) rfl (fun _ _ => ?_)
       refine G.v (rv_not rfl) rfl ?_
       refine G.done ?_
       refine G.thenN ?_
       refine G.cond rfl (fun hc => ?_) (fun hc => ?_)
       · try exact Bool.noConfusion hc
         all_goals
          try replace hc := of_decide_eq_true hc
          try simp only [List.length_map] at hc
          try (exfalso; contradiction)
          all_goals
           have hh1 : hasM l (c : Int) = false := by simpa using hc
           all_goals
            refine G.exit ?_
            refine G.thenX ?_
            refine G.inX ?_
            refine G.thenN ?_
            refine G.region ?_
            refine G.v (rv_move rfl) rfl ?_
            (refine G.v (rv_incr rfl rfl (by omega)) rfl ?_)
            refine G.v (rv_assign rfl) rfl ?_
            refine G.done ?_
            (refine G.frontR1 v2 rfl ?_)
            (refine G.frontG1 _ rfl ?_)
            (refine G.keep2 0 rfl ?_; refine G.backK (c + 1, ts, v2) 0 (by rfl) (.cons rfl (.cons rfl (.nil))) ?_ ?_ ?_)
            · exact ⟨rfl, rfl, trivial⟩
            · (exact ⟨by omega, by rw [below_no hh1]; exact hM⟩)
            · dsimp only; omega
       · try exact Bool.noConfusion hc
         all_goals
          try replace hc := of_decide_eq_false hc
          try simp only [List.length_map] at hc
          try (exfalso; contradiction)
          all_goals
           have hh1 : hasM l (c : Int) = true := by simpa using hc
           all_goals
            refine G.skip ?_
            refine G.thenN ?_
            refine G.seq ?_
            refine G.region ?_
            refine G.v (rv_assign rfl) rfl ?_
            refine G.done ?_
            refine G.thenN ?_
            refine G.seq ?_
            refine G.seq ?_
            refine G.region ?_
            refine G.v (rv_move rfl) rfl ?_
            refine G.v (rv_len rfl (by exact Rd.owned 1 rfl)) rfl ?_
            refine G.v (rv_subB rfl rfl (by omega) (by omega)) rfl ?_
            refine G.v (rv_assign rfl) rfl ?_
            refine G.done ?_
            refine G.thenN ?_
            refine G.block ?_
            -- loop 1: turned [7, 8], kept [0, 1, 5, 6]
            refine G.loopK (ι := Nat) (ks := [0, 1, 5, 6]) (fun k => [(7, .int .i64 (idxFrom (fun b => joinsM ps b.1 (c : Int)) ts k)), (8, .int .i64 ((k : Int) - 1))]) (fun _ => []) (fun k => k ≤ ts.length) (fun k => k) ts.length (.cons rfl (.cons rfl (.cons rfl (.cons rfl (.nil))))) rfl ?_ ?_ ?_
            · exact Nat.le_refl _
            · exact ⟨congrArg (fun z => some (Value.int .i64 z)) from_end.symm, congrArg (fun z : Nat => some (Value.int .i64 ((z : Int) - 1))) hl0, trivial⟩
            rintro k hk1
            rcases k with _ | k
            case' succ => (obtain ⟨b, hb⟩ := get_of_lt (l := ts) (k := k) (by omega); have heb := get_map hb gcell)
            all_goals
             refine G.seq ?_
             refine G.seq ?_
             refine G.region ?_
             refine G.v (rv_move rfl) rfl ?_
             refine G.v (rv_geq rfl rfl) rfl ?_
             refine G.done ?_
             refine G.thenN ?_
             refine G.cond rfl (fun hc => ?_) (fun hc => ?_)
             · try exact Bool.noConfusion hc
               all_goals
                try replace hc := of_decide_eq_true hc
                try simp only [List.length_map] at hc
                try (exfalso; contradiction)
                all_goals
                 refine G.skip ?_
                 refine G.thenN ?_
                 refine G.seq ?_
                 refine G.block ?_
                 refine G.seq ?_
                 refine G.region ?_
                 refine G.v (rv_move rfl) rfl ?_
                 refine G.v (rv_move rfl) rfl ?_
                 refine G.v (rv_move rfl) rfl ?_
                 (refine G.v (rv_indexH (k := k) rfl rfl (by exact Rd.owned 1 rfl) (by omega) heb) rfl ?_)
                 refine G.v (rv_loadE rfl (by exact Rd.owned 1 rfl) (by exact heb) rfl) rfl ?_
                 refine G.v (rv_move rfl) rfl ?_
                 refine G.op (og_callV rfl rfl (fun w hh => l3Joins_any (ps := ps) (l := b.1) _ w (Rd.stays h _ hh) (Subs.at (by exact Subs.owned 0 rfl _ hh) hb))) rfl (fun _ _ => ?_)
                 refine G.done ?_
                 refine G.thenN ?_
                 refine G.cond rfl (fun hc => ?_) (fun hc => ?_)
                 · try exact Bool.noConfusion hc
                   all_goals
                    try replace hc := of_decide_eq_true hc
                    try simp only [List.length_map] at hc
                    try (exfalso; contradiction)
                    all_goals
                     refine G.region ?_
                     refine G.v (rv_move rfl) rfl ?_
                     refine G.v (rv_assign rfl) rfl ?_
                     refine G.done ?_
                     refine G.inN ?_
                     refine G.thenN ?_
                     refine G.region ?_
                     refine G.v (rv_move rfl) rfl ?_
                     refine G.v (rv_subB rfl rfl (by omega) (by omega)) rfl ?_
                     refine G.v (rv_assign rfl) rfl ?_
                     refine G.done ?_
                     refine G.backK k 0 rfl (.cons rfl (.cons rfl (.cons rfl (.cons rfl (.nil))))) ?_ ?_ ?_
                     · exact ⟨congrArg (fun z => some (Value.int .i64 z)) ((show ((k + 1 : Nat) : Int) - 1 = (k : Int) by omega).trans (from_yes hb hc)), congrArg (fun z => some (Value.int .i64 z)) (show ((k + 1 : Nat) : Int) - 1 - 1 = (k : Int) - 1 by omega), trivial⟩
                     · omega
                     · omega
                 · try exact Bool.noConfusion hc
                   all_goals
                    try replace hc := of_decide_eq_false hc
                    try simp only [List.length_map] at hc
                    try (exfalso; contradiction)
                    all_goals
                     refine G.skip ?_
                     refine G.inN ?_
                     refine G.thenN ?_
                     refine G.region ?_
                     refine G.v (rv_move rfl) rfl ?_
                     refine G.v (rv_subB rfl rfl (by omega) (by omega)) rfl ?_
                     refine G.v (rv_assign rfl) rfl ?_
                     refine G.done ?_
                     refine G.backK k 0 rfl (.cons rfl (.cons rfl (.cons rfl (.cons rfl (.nil))))) ?_ ?_ ?_
                     · exact ⟨congrArg (fun z => some (Value.int .i64 z)) (from_no hb hc), congrArg (fun z => some (Value.int .i64 z)) (show ((k + 1 : Nat) : Int) - 1 - 1 = (k : Int) - 1 by omega), trivial⟩
                     · omega
                     · omega
             · try exact Bool.noConfusion hc
               all_goals
                try replace hc := of_decide_eq_false hc
                try simp only [List.length_map] at hc
                try (exfalso; omega)
                all_goals
                 refine G.exit ?_
                 refine G.thenX ?_
                 refine G.thenX ?_
                 refine G.inX ?_
                 refine G.thenN ?_
                 refine G.seq ?_
                 refine G.region ?_
                 refine G.v (rv_move rfl) rfl ?_
                 refine G.v (rv_lss rfl rfl) rfl ?_
                 refine G.done ?_
                 refine G.thenN ?_
                 refine G.cond rfl (fun hc => ?_) (fun hc => ?_)
                 · try exact Bool.noConfusion hc
                   all_goals
                    try replace hc := of_decide_eq_true hc
                    try simp only [List.length_map] at hc
                    try (exfalso; contradiction)
                    all_goals
                     rw [from_zero] at hc
                     have hno := idx_neg hc
                     all_goals
                      refine G.region ?_
                      refine G.v (rv_move rfl) rfl ?_
                      refine G.v (rv_move rfl) rfl ?_
                      refine G.op (og_lit rfl (.cons rfl .nil) rfl rfl rfl rfl rfl rfl) rfl (fun vl _ => ?_)
                      refine G.know (fun w hw => (Rd.owned 0 rfl w hw).one_) (fun hovl => ?_)
                      refine G.op (og_lit rfl (.cons (cells_one (by assumption)) .nil) (by simp only [List.all_cons, List.all_nil, Bool.and_true, Bool.and_eq_true]; exact ⟨rfl, by assumption⟩) rfl rfl rfl rfl rfl) rfl (fun vm _ => ?_)
                      ((refine G.op (og_app3 rfl rfl rfl (by exact Rd.owned 0 rfl) rfl rfl (by simp; omega) (by simp; omega)) rfl (fun va _ => ?_)))
                      (refine G.frontG2 _ rfl ?_)
                      (refine G.frontR2 vl rfl ?_)
                      refine G.pushRow _ push_sub rfl ?_
                      refine G.v (rv_assign rfl) rfl ?_
                      refine G.done ?_
                      refine G.inN ?_
                      refine G.thenN ?_
                      refine G.region ?_
                      refine G.v (rv_move rfl) rfl ?_
                      (refine G.v (rv_incr rfl rfl (by omega)) rfl ?_)
                      refine G.v (rv_assign rfl) rfl ?_
                      refine G.done ?_
                      (refine G.frontR2 va rfl ?_)
                      (refine G.frontG1 _ rfl ?_)
                      (refine G.keep2 1 rfl ?_; refine G.backK (c + 1, ts ++ [([(c : Int)], vl)], va) 0 (by exact two_eq (congrArg (fun z => Ch.grp 3 1 z) rfl) (congrArg (fun z => Ch.row va 44 1 z) push_g)) (.cons rfl (.cons rfl (.nil))) ?_ ?_ ?_)
                      · exact ⟨rfl, rfl, trivial⟩
                      · (exact ⟨by omega, by rw [below_yes hh1, groupsM, putAll_snoc, ← groupsM, ← hM]; exact (put_push (p := fun g => joinsM ps g (c : Int)) hno).symm⟩)
                      · dsimp only; omega
                 · try exact Bool.noConfusion hc
                   all_goals
                    try replace hc := of_decide_eq_false hc
                    try simp only [List.length_map] at hc
                    try (exfalso; contradiction)
                    all_goals
                     rw [from_zero] at hc
                     obtain ⟨q, b, hq, hqb, hpb, hbt⟩ := idx_pos hc
                     have hq2 := (from_zero (p := fun b => joinsM ps b.1 (c : Int)) (l := ts)).trans hq
                     have heq := get_map hqb gcell
                     have hgi : (ts.map (sub id))[q]? = some (b.2, b.1.map icell) := get_mapS hqb
                     have hbl : b.1.length ≤ 4 := (by have := (putAll_at (p := fun g x => joinsM ps g x) (l := below l c) (q := q) (g := b.1) (by show (groupsM ps (below l c))[q]? = _; rw [← hM, List.getElem?_map, hqb]; rfl)); have := below_len l c; omega)
                     all_goals
                      refine G.region ?_
                      refine G.v (rv_move rfl) rfl ?_
                      refine G.v (rv_move rfl) rfl ?_
                      refine G.v (rv_move rfl) rfl ?_
                      refine G.v (rv_move rfl) rfl ?_
                      (refine G.v (rv_indexH (k := q) rfl rfl (by exact Rd.owned 1 rfl) (by omega) heq) rfl ?_)
                      refine G.v (rv_loadE rfl (by exact Rd.owned 1 rfl) (by exact heq) rfl) rfl ?_
                      refine G.v (rv_move rfl) rfl ?_
                      refine G.op (og_lit rfl (.cons rfl .nil) rfl rfl rfl rfl rfl rfl) rfl (fun vl _ => ?_)
                      ((refine G.op (og_appG1 rfl rfl rfl hgi (by exact Rd.owned 0 rfl) rfl rfl (by simp; omega) (by simp; omega)) rfl (fun vb _ => ?_)))
                      skip; refine G.know (fun w hw => (Rd.grp 1 rfl (List.mem_of_getElem? (get_set1 hgi)) w hw).one_) (fun hova => ?_)
                      (refine G.v (rv_indexH (k := q) rfl rfl (by exact Rd.owned 2 rfl) (by omega) heq) rfl ?_)
                      (refine G.op0 (og_stE2 rfl rfl rfl (by exact heq) (cells_one (by assumption)) rfl (by repeat (first | rfl | refine one_cons (by assumption) ?_)) rfl (.zero (.cons .nil))) (fun _ _ => ?_))
                      refine G.done ?_
                      refine G.inN ?_
                      refine G.thenN ?_
                      refine G.region ?_
                      refine G.v (rv_move rfl) rfl ?_
                      (refine G.v (rv_incr rfl rfl (by omega)) rfl ?_)
                      refine G.v (rv_assign rfl) rfl ?_
                      refine G.done ?_
                      (refine G.frontR2 v2 rfl ?_)
                      (refine G.frontG2 _ rfl ?_)
                      (refine G.keep2 1 rfl ?_; refine G.backK (c + 1, ts.set q (b.1 ++ [(c : Int)], vb), v2) 0 (by exact two_eq (congrArg (fun z => Ch.grp 3 1 z) into_sub) (congrArg (fun z => Ch.row v2 44 1 z) into_g)) (.cons rfl (.cons rfl (.nil))) ?_ ?_ ?_)
                      · exact ⟨rfl, rfl, trivial⟩
                      · (exact ⟨by omega, by rw [below_yes hh1, groupsM, putAll_snoc, ← groupsM, ← hM]; exact (put_into (p := fun g => joinsM ps g (c : Int)) hqb hpb hbt).symm⟩)
                      · dsimp only; omega
   · try exact Bool.noConfusion hc
     all_goals
      try replace hc := of_decide_eq_false hc
      try simp only [List.length_map] at hc
      try (exfalso; contradiction)
      all_goals
       refine G.exit ?_
       refine G.thenX ?_
       refine G.thenX ?_
       refine G.inX ?_
       refine G.thenN ?_
       refine G.seq ?_
       refine G.region ?_
       refine G.v (rv_move rfl) rfl ?_
       refine G.v (rv_assign rfl) rfl ?_
       refine G.done ?_
       refine G.thenN ?_
       refine G.ret ?_
       refine G.know (fun w hw => (Rd.owned 1 rfl w hw).one_) (fun hone => G.retF (v2, ts) ⟨hone, by rw [show c = 4 by omega, below_all hasc hin] at hM; exact hM⟩ rfl rfl rfl (fun w hw => hw.sublist (by repeat (exact List.Sublist.refl _))))
end Go.Proofs.YtibkggjbkgdnkaaGreat

/-
  The groups of an order: both ways, and the law.
-/
namespace Go.Proofs.YtibkggjbkgdnkaaGreat
open Go.RowKit
attribute [local irreducible] Go.wpList Go.Code.wp Go.Exit.then Go.Exit.inBlock Go.bodyPost Go.Calls pE pB G RunsV FnV Fn FnM
set_option maxRecDepth 100000
set_option maxHeartbeats 4000000
def groupsOfM (r : ReqM) : List (List Int) := groupsM r.pairs (presI r)
theorem presI_no {r : ReqM} (h : ¬ classM r = 0) : presI r = [] := by rw [presI, presM, if_neg h]; rfl
theorem groupsOf_no {r : ReqM} (h : ¬ classM r = 0) : groupsOfM r = [] := by rw [groupsOfM, presI_no h]; rfl
theorem cntSS_eq (l : List (List Int × Value)) : cntG cntSS l = ((l.map Prod.fst).map List.length).sum := by
  induction l with
  | nil => rfl
  | cons x r ih =>
    have e : cntG cntSS (x :: r) = cntSS x + cntG cntSS r := rfl
    rw [e, ih, cntSS, cnt_const (cnt := cntI) (m := 1) (fun _ => rfl)]; simp
section
variable {r : ReqM} {pv tv iv : Value} (w : World) (h : Rd w pv 2 (r.pairs.map PairM.cells)) (h2 : Rd w tv 7 (r.types.map TypeM.cells)) (h3 : Rd w iv 7 (r.items.map ItemM.cells))
include h h2 h3
theorem groupsOf_any : Fn Tryz.prog 21 [.agg (r.cells pv tv iv).toArray] w (fun x : Value × List (List Int × Value) => x.1.oneCell' = true ∧ x.2.map Prod.fst = groupsOfM r) (fun x => x.1) (fun x => [.grp 3 1 (x.2.map (sub id)), .row x.1 44 1 (x.2.map gcell)]) := by
  refine Fn.of (n := 11) Tryz.func21 rfl rfl ?_
  refine G.seq ?_
  refine G.region ?_
  refine G.op (og_box rfl rfl) rfl (fun bk1 _ => ?_)
  refine G.v (rv_assign rfl) rfl ?_
  refine G.done ?_
  refine G.thenN ?_
  refine G.seq ?_
  refine G.seq ?_
  refine G.region ?_
  (refine G.v (rv_loadW 0 rfl rfl rfl) rfl ?_)
  refine G.op (og_callV rfl rfl (fun w hh => sound_any (r := r) w (Rd.stays h _ hh) (Rd.stays h2 _ hh) (Rd.stays h3 _ hh))) rfl (fun _ _ => ?_)
  refine G.v (rv_not rfl) rfl ?_
  refine G.done ?_
  refine G.thenN ?_
  refine G.cond rfl (fun hc => ?_) (fun hc => ?_)
  · try exact Bool.noConfusion hc
    all_goals
     try replace hc := of_decide_eq_true hc
     try (exfalso; contradiction)
     all_goals
      refine G.seq ?_
      refine G.region ?_
      refine G.v (rv_assign rfl) rfl ?_
      refine G.done ?_
      refine G.thenN ?_
      refine G.ret ?_
      refine G.thenR ?_
      exact G.retF (.slice none 0 0, []) ⟨rfl, (groupsOf_no (by exact of_decide_eq_false (by simpa using hc))).symm⟩ rfl rfl rfl (fun w hw => (hw.none.nilRow _ _).nilGrp _ _)
  · try exact Bool.noConfusion hc
    all_goals
     try replace hc := of_decide_eq_false hc
     try (exfalso; contradiction)
     all_goals
      refine G.skip ?_
      refine G.thenN ?_
      refine G.seq ?_
      refine G.drawL [5] ?_
      (refine GE.q 0 rfl (by as_aux_lemma => kernel_rfl) rfl (qg_runs (rv_field rfl)) rfl ?_)
      (refine GE.q 1 rfl (by as_aux_lemma => kernel_rfl) rfl (qg_runs (rv_load1 0 rfl rfl rfl)) rfl ?_)
      (refine GE.ol 2 (by as_aux_lemma => kernel_rfl) rfl rfl (og_runs (rv_loadW 0 rfl rfl rfl)) rfl (fun _ _ h => by exact h) (fun _ _ => ?_))
      (refine GE.ol 3 (by as_aux_lemma => kernel_rfl) rfl rfl (og_callF1 rfl rfl (fun w hh => present_any (r := r) w (Rd.stays h _ hh) (Rd.stays h2 _ hh) (Rd.stays h3 _ hh))) rfl (fun _ _ h => by exact h.drop 1) ?_; rintro vk hvk; try dsimp only)
      (refine GE.ol 4 (by as_aux_lemma => kernel_rfl) rfl rfl (og_callF2 rfl rfl (fun w hh => groups_any (ps := r.pairs) (l := presI r) w (Rd.stays h _ hh) (by rw [← presI_cells]; exact Rd.owned 0 rfl _ hh) (presI_asc r) (fun x hx => presI_in hx) (presI_len r))) rfl (fun _ _ h => by exact h.drop 3) ?_; rintro ⟨vo, os⟩ ⟨hvo, hos⟩; try dsimp only)
      refine GE.t 5 (by as_aux_lemma => kernel_rfl) rfl rfl rfl (og_runs (rv_assign rfl)) rfl (fun _ _ => ?_)
      refine GE.done (by as_aux_lemma => kernel_rfl) ?_
      refine G.thenN ?_
      refine G.ret ?_
      exact G.retF (vo, os) ⟨hvo, hos⟩ rfl rfl rfl (fun w hw => hw.sublist (by repeat (first | exact List.Sublist.refl _ | refine List.Sublist.cons_cons _ ?_ | refine List.Sublist.cons _ ?_)))
theorem sgroupsOf_any : Fn Tryz.prog 19 [.agg (r.cells pv tv iv).toArray] w (fun x : Value × List (List Int × Value) => x.1.oneCell' = true ∧ x.2.map Prod.fst = groupsOfM r) (fun x => x.1) (fun x => [.grp 3 1 (x.2.map (sub id)), .row x.1 44 1 (x.2.map gcell)]) := by
  refine Fn.of (n := 8) Tryz.func19 rfl rfl ?_
  refine G.seq ?_
  refine G.region ?_
  refine G.op (og_box rfl rfl) rfl (fun bk1 _ => ?_)
  refine G.v (rv_assign rfl) rfl ?_
  refine G.done ?_
  refine G.thenN ?_
  refine G.seq ?_
  refine G.drawL [5] ?_
  (refine GE.q 0 rfl (by as_aux_lemma => kernel_rfl) rfl (qg_runs (rv_field rfl)) rfl ?_)
  (refine GE.q 1 rfl (by as_aux_lemma => kernel_rfl) rfl (qg_runs (rv_load1 0 rfl rfl rfl)) rfl ?_)
  (refine GE.ol 2 (by as_aux_lemma => kernel_rfl) rfl rfl (og_runs (rv_loadW 0 rfl rfl rfl)) rfl (fun _ _ h => by exact h) (fun _ _ => ?_))
  (refine GE.ol 3 (by as_aux_lemma => kernel_rfl) rfl rfl (og_callF1 rfl rfl (fun w hh => spresent_any (r := r) w (Rd.stays h _ hh) (Rd.stays h2 _ hh) (Rd.stays h3 _ hh))) rfl (fun _ _ h => by exact h.drop 1) ?_; rintro vk hvk; try dsimp only)
  (refine GE.ol 4 (by as_aux_lemma => kernel_rfl) rfl rfl (og_callF2 rfl rfl (fun w hh => sgroups_any (ps := r.pairs) (l := presI r) w (Rd.stays h _ hh) (by rw [← presI_cells]; exact Rd.owned 0 rfl _ hh) (presI_asc r) (fun x hx => presI_in hx))) rfl (fun _ _ h => by exact h.drop 3) ?_; rintro ⟨vo, os⟩ ⟨hvo, hos⟩; try dsimp only)
  refine GE.t 5 (by as_aux_lemma => kernel_rfl) rfl rfl rfl (og_runs (rv_assign rfl)) rfl (fun _ _ => ?_)
  refine GE.done (by as_aux_lemma => kernel_rfl) ?_
  refine G.thenN ?_
  refine G.ret ?_
  exact G.retF (vo, os) ⟨hvo, hos⟩ rfl rfl rfl (fun w hw => hw.sublist (by repeat (first | exact List.Sublist.refl _ | refine List.Sublist.cons_cons _ ?_ | refine List.Sublist.cons _ ?_)))
end
theorem fnExactGroupsOf_any {pv tv iv : Value} {w : World} (r : ReqM) (hr : RqRd w r pv tv iv) :
    FnV Tryz.prog 3 [.agg (r.cells pv tv iv).toArray] w (.bool true) := by
  obtain ⟨h, h2, h3⟩ := hr
  have hcR := cntR_in (r := r)
  have hgl : ((groupsOfM r).map List.length).sum ≤ 4 := by rw [groupsOfM, groupsM, putAll_sum]; exact presI_len r
  refine FnV.of (n := 69) Tryz.func3 rfl rfl ?_
  refine G.seq ?_
  refine G.region ?_
  refine G.op (og_box rfl rfl) rfl (fun bk1 _ => ?_)
  refine G.v (rv_assign rfl) rfl ?_
  refine G.done ?_
  refine G.thenN ?_
  refine G.seq ?_
  refine G.region ?_
  refine G.v (rv_assign rfl) rfl ?_
  refine G.done ?_
  refine G.thenN ?_
  refine G.seq ?_
  refine G.region ?_
  (refine G.v (rv_loadW 0 rfl rfl rfl) rfl ?_)
  refine G.v (rv_move rfl) rfl ?_
  refine G.op (og_callV rfl rfl (fun w hh => szRequest_any (r := r) _ w (Rd.stays h _ hh) (Rd.stays h2 _ hh) (Rd.stays h3 _ hh) (by omega) (by omega))) rfl (fun _ _ => ?_)
  refine G.v (rv_assign rfl) rfl ?_
  refine G.done ?_
  refine G.thenN ?_
  refine G.seq ?_
  refine G.seq ?_
  refine G.region ?_
  refine G.v (rv_move rfl) rfl ?_
  refine G.v (rv_lss rfl rfl) rfl ?_
  refine G.done ?_
  refine G.thenN ?_
  refine G.cond rfl (fun hc => ?_) (fun hc => ?_)
  · try exact Bool.noConfusion hc
    all_goals
     try replace hc := of_decide_eq_true hc
     try (exfalso; contradiction)
     all_goals
      refine G.seq ?_
      refine G.region ?_
      refine G.v (rv_assign rfl) rfl ?_
      refine G.done ?_
      refine G.thenN ?_
      refine G.ret ?_
      refine G.thenR ?_
      exact G.retFV rfl rfl rfl
  · try exact Bool.noConfusion hc
    all_goals
     try replace hc := of_decide_eq_false hc
     try (exfalso; contradiction)
     all_goals
      refine G.skip ?_
      refine G.thenN ?_
      refine G.seq ?_
      refine G.region ?_
      (refine G.v (rv_loadW 0 rfl rfl rfl) rfl ?_)
      ((refine G.op (og_callF3 rfl rfl (fun w hh => toRequest_any (r := r) w (Rd.stays h _ hh) (Rd.stays h2 _ hh) (Rd.stays h3 _ hh) (by (try simp only [szM] at *); omega))) rfl ?_; rintro ⟨pvN, tvN, ivN⟩ ⟨hovN, hov2N, hov3N⟩; try dsimp only))
      (refine G.op (og_callF2 rfl rfl (fun w hh => sgroupsOf_any (r := r) w (by exact Rd.owned 2 rfl _ hh) (by exact Rd.owned 1 rfl _ hh) (by exact Rd.owned 0 rfl _ hh))) rfl ?_; rintro ⟨vo, os⟩ ⟨hvo, hos⟩; try dsimp only)
      refine G.v (rv_assign rfl) rfl ?_
      refine G.done ?_
      refine G.thenN ?_
      refine G.seq ?_
      refine G.region ?_
      (refine G.v (rv_loadW 5 rfl rfl rfl) rfl ?_)
      ((refine G.op (og_callF3 rfl rfl (fun w hh => toRequest_any (r := r) w (Rd.stays h _ hh) (Rd.stays h2 _ hh) (Rd.stays h3 _ hh) (by (try simp only [szM] at *); omega))) rfl ?_; rintro ⟨pv2, tv2, iv2⟩ ⟨hov2, hov22, hov32⟩; try dsimp only))
      refine G.op (og_alloc) rfl (fun bk5 _ => ?_)
      (refine G.op0 (og_st0 rfl rfl rfl rfl rfl (by repeat (first | rfl | refine one_cons (by first | rfl | assumption) ?_)) (.zero (.cons (.cons (.cons (.cons (.cons (.cons (.cons (.cons (.cons (.cons .nil)))))))))))) (fun _ _ => ?_))
      refine G.done ?_
      refine G.thenN ?_
      refine G.seq ?_
      refine G.region ?_
      (refine G.v (rv_loadW 0 rfl rfl rfl) rfl ?_)
      (refine G.op (og_callF2 rfl rfl (fun w hh => groupsOf_any (r := r) w (by exact Rd.owned 3 rfl _ hh) (by exact Rd.owned 2 rfl _ hh) (by exact Rd.owned 1 rfl _ hh))) rfl ?_; rintro ⟨vg, gs⟩ ⟨hvg, hgs⟩; try dsimp only)
      have hgt := cntSS_eq gs; rw [hgs] at hgt
      refine G.v (rv_assign rfl) rfl ?_
      refine G.done ?_
      refine G.thenN ?_
      refine G.seq ?_
      refine G.seq ?_
      refine G.region ?_
      refine G.v (rv_move rfl) rfl ?_
      refine G.v (rv_move rfl) rfl ?_
      refine G.op (og_callV rfl rfl (fun w hh => eqIntSS_any (xs := gs) (ys := os) w (by exact Rd.owned 1 rfl _ hh) (by exact Subs.owned 0 rfl _ hh) (by exact Rd.owned 7 rfl _ hh) (by exact Subs.owned 6 rfl _ hh))) rfl (fun _ _ => ?_)
      refine G.v (rv_not rfl) rfl ?_
      refine G.done ?_
      refine G.thenN ?_
      refine G.cond rfl (fun hc => ?_) (fun hc => ?_)
      · try exact Bool.noConfusion hc
        all_goals
         try replace hc := of_decide_eq_true hc
         try (exfalso; contradiction)
         all_goals
          refine G.seq ?_
          refine G.region ?_
          refine G.v (rv_assign rfl) rfl ?_
          refine G.done ?_
          refine G.thenN ?_
          refine G.ret ?_
          refine G.thenR ?_
          (exfalso; simp_all; done)
      · try exact Bool.noConfusion hc
        all_goals
         try replace hc := of_decide_eq_false hc
         try (exfalso; contradiction)
         all_goals
          refine G.skip ?_
          refine G.thenN ?_
          refine G.seq ?_
          refine G.seq ?_
          refine G.drawL [3] ?_
          (refine GE.q 0 rfl (by as_aux_lemma => kernel_rfl) rfl (qg_runs (rv_loadW 2 rfl rfl rfl)) rfl ?_)
          (refine GE.ol 1 (by as_aux_lemma => kernel_rfl) rfl rfl (og_runs (rv_loadW 11 rfl rfl rfl)) rfl (fun _ _ h => by exact h) (fun _ _ => ?_))
          ((refine GE.ol 2 (by as_aux_lemma => kernel_rfl) rfl rfl (og_callF3 rfl rfl (fun w hh => toRequest_any (r := r) w (Rd.stays h _ hh) (Rd.stays h2 _ hh) (Rd.stays h3 _ hh) (by (try simp only [szM] at *); omega))) rfl (fun _ _ h => by exact h.drop 3) ?_; rintro ⟨pv3, tv3, iv3⟩ ⟨hov3, hov23, hov33⟩; try dsimp only))
          refine GE.t 3 (by as_aux_lemma => kernel_rfl) rfl rfl rfl (og_callV rfl rfl (fun w hh => eqRequest_any (r := r) (s := r) w (by exact Rd.owned 8 rfl _ hh) (by exact Rd.owned 7 rfl _ hh) (by exact Rd.owned 6 rfl _ hh) (by exact Rd.owned 2 rfl _ hh) (by exact Rd.owned 1 rfl _ hh) (by exact Rd.owned 0 rfl _ hh))) rfl (fun _ _ => ?_)
          refine GE.ol 4 (by as_aux_lemma => kernel_rfl) rfl rfl (og_runs (rv_not rfl)) rfl (fun _ _ h => by exact h.drop 3) (fun _ _ => ?_)
          refine GE.done (by as_aux_lemma => kernel_rfl) ?_
          refine G.thenN ?_
          refine G.cond rfl (fun hc => ?_) (fun hc => ?_)
          · try exact Bool.noConfusion hc
            all_goals
             try replace hc := of_decide_eq_true hc
             try (exfalso; contradiction)
             all_goals
              refine G.seq ?_
              refine G.region ?_
              refine G.v (rv_assign rfl) rfl ?_
              refine G.done ?_
              refine G.thenN ?_
              refine G.ret ?_
              refine G.thenR ?_
              (exfalso; simp_all; done)
          · try exact Bool.noConfusion hc
            all_goals
             try replace hc := of_decide_eq_false hc
             try (exfalso; contradiction)
             all_goals
              refine G.skip ?_
              refine G.thenN ?_
              refine G.seq ?_
              refine G.region ?_
              refine G.v (rv_assign rfl) rfl ?_
              refine G.done ?_
              refine G.thenN ?_
              refine G.seq ?_
              refine G.region ?_
              (refine G.v (rv_loadW 5 rfl rfl rfl) rfl ?_)
              refine G.v (rv_move rfl) rfl ?_
              ((refine G.frontR8 (pv2) rfl ?_); (refine G.frontR8 (tv2) rfl ?_); (refine G.frontR8 (iv2) rfl ?_); refine G.op (og_callMM3 rfl rfl rfl (markRequest_any (r := r) (by omega) (by (try simp only [szM] at *); omega)).toF) rfl ?_; rintro ⟨⟩ _; try dsimp only)
              refine G.v (rv_assign rfl) rfl ?_
              refine G.done ?_
              refine G.thenN ?_
              refine G.seq ?_
              refine G.seq ?_
              refine G.region ?_
              refine G.v (rv_move rfl) rfl ?_
              refine G.v (rv_lss rfl rfl) rfl ?_
              refine G.v (rv_move rfl) rfl ?_
              all_goals (((with_reducible refine G.gP rfl rfl (fun hg => ?_) (fun hg => ?_)) <;> (try exact Bool.noConfusion hg) <;> ((refine G.gY rfl rfl ?_; refine G.v (rv_move rfl) rfl ?_))))
              all_goals (((refine G.gY rfl rfl ?_; refine G.v (rv_move rfl) rfl ?_)))
              all_goals (((refine G.gY rfl rfl ?_; refine G.op (og_callV rfl rfl (fun w hh => eqIntSS_any (xs := gs) (ys := os) w (by exact Rd.owned 7 rfl _ hh) (by exact Subs.owned 6 rfl _ hh) (by exact Rd.owned 10 rfl _ hh) (by exact Subs.owned 9 rfl _ hh))) rfl (fun _ _ => ?_))))
              all_goals (((refine G.gY rfl rfl ?_; refine G.v (rv_not rfl) rfl ?_)))
              all_goals ((refine G.v (rv_pickF rfl rfl) rfl ?_))
              all_goals
               refine G.done ?_
               refine G.thenN ?_
               refine G.cond rfl (fun hc => ?_) (fun hc => ?_)
               · try exact Bool.noConfusion hc
                 all_goals
                  try replace hc := of_decide_eq_true hc
                  try (exfalso; contradiction)
                  all_goals
                   refine G.seq ?_
                   refine G.region ?_
                   refine G.v (rv_assign rfl) rfl ?_
                   refine G.done ?_
                   refine G.thenN ?_
                   refine G.ret ?_
                   refine G.thenR ?_
                   (exfalso; simp_all; done)
               · try exact Bool.noConfusion hc
                 all_goals
                  try replace hc := of_decide_eq_false hc
                  try (exfalso; contradiction)
                  all_goals
                   refine G.skip ?_
                   refine G.thenN ?_
                   refine G.seq ?_
                   refine G.region ?_
                   refine G.v (rv_assign rfl) rfl ?_
                   refine G.done ?_
                   refine G.thenN ?_
                   refine G.seq ?_
                   refine G.region ?_
                   refine G.v (rv_move rfl) rfl ?_
                   refine G.v (rv_move rfl) rfl ?_
                   ((refine G.frontR7 (vg) rfl ?_); (refine G.frontG7 (gs.map (sub id)) rfl ?_); refine G.op (og_callMM2 rfl rfl rfl (markIntSS_any (by omega) (by omega)).toF) rfl ?_; rintro ⟨⟩ _; try dsimp only)
                   refine G.v (rv_assign rfl) rfl ?_
                   refine G.done ?_
                   refine G.thenN ?_
                   refine G.seq ?_
                   refine G.region ?_
                   refine G.v (rv_assign rfl) rfl ?_
                   refine G.done ?_
                   refine G.thenN ?_
                   refine G.seq ?_
                   refine G.region ?_
                   refine G.v (rv_move rfl) rfl ?_
                   refine G.v (rv_move rfl) rfl ?_
                   refine G.op (og_callV rfl rfl (fun w hh => heldIntSS_marked (l := gs) w (by exact Rd.owned 1 rfl _ hh) (by exact Subs.owned 0 rfl _ hh) (by omega) (by omega))) rfl (fun _ _ => ?_)
                   refine G.v (rv_assign rfl) rfl ?_
                   refine G.done ?_
                   refine G.thenN ?_
                   refine G.seq ?_
                   refine G.seq ?_
                   refine G.region ?_
                   refine G.v (rv_move rfl) rfl ?_
                   refine G.v (rv_lss rfl rfl) rfl ?_
                   refine G.done ?_
                   refine G.thenN ?_
                   refine G.cond rfl (fun hc => ?_) (fun hc => ?_)
                   · try exact Bool.noConfusion hc
                     all_goals
                      try replace hc := of_decide_eq_true hc
                      try (exfalso; contradiction)
                      all_goals
                       refine G.seq ?_
                       refine G.region ?_
                       refine G.v (rv_assign rfl) rfl ?_
                       refine G.done ?_
                       refine G.thenN ?_
                       refine G.ret ?_
                       refine G.thenR ?_
                       exact G.retFV rfl rfl rfl
                   · try exact Bool.noConfusion hc
                     all_goals
                      try replace hc := of_decide_eq_false hc
                      try (exfalso; contradiction)
                      all_goals
                       refine G.skip ?_
                       refine G.thenN ?_
                       refine G.seq ?_
                       refine G.seq ?_
                       refine G.region ?_
                       refine G.v (rv_move rfl) rfl ?_
                       refine G.v (rv_move rfl) rfl ?_
                       refine G.v (rv_neq rfl rfl) rfl ?_
                       refine G.done ?_
                       refine G.thenN ?_
                       refine G.cond rfl (fun hc => ?_) (fun hc => ?_)
                       · try exact Bool.noConfusion hc
                         all_goals
                          try replace hc := of_decide_eq_true hc
                          try (exfalso; contradiction)
                          all_goals
                           refine G.seq ?_
                           refine G.region ?_
                           refine G.v (rv_assign rfl) rfl ?_
                           refine G.done ?_
                           refine G.thenN ?_
                           refine G.ret ?_
                           refine G.thenR ?_
                           exact G.retFV rfl rfl rfl
                       · try exact Bool.noConfusion hc
                         all_goals
                          try replace hc := of_decide_eq_false hc
                          try (exfalso; contradiction)
                          all_goals
                           refine G.skip ?_
                           refine G.thenN ?_
                           refine G.seq ?_
                           refine G.region ?_
                           (refine G.v (rv_loadW 14 rfl rfl rfl) rfl ?_)
                           ((refine G.op (og_callF3 rfl rfl (fun w hh => toRequest_any (r := r) w (Rd.stays h _ hh) (Rd.stays h2 _ hh) (Rd.stays h3 _ hh) (by (try simp only [szM] at *); omega))) rfl ?_; rintro ⟨pv4, tv4, iv4⟩ ⟨hov4, hov24, hov34⟩; try dsimp only))
                           (refine G.op (og_callF2 rfl rfl (fun w hh => groupsOf_any (r := r) w (by exact Rd.owned 2 rfl _ hh) (by exact Rd.owned 1 rfl _ hh) (by exact Rd.owned 0 rfl _ hh))) rfl ?_; rintro ⟨vh, js⟩ ⟨hvh, hjs⟩; try dsimp only)
                           refine G.v (rv_assign rfl) rfl ?_
                           refine G.done ?_
                           refine G.thenN ?_
                           refine G.seq ?_
                           refine G.seq ?_
                           refine G.region ?_
                           refine G.v (rv_move rfl) rfl ?_
                           refine G.v (rv_move rfl) rfl ?_
                           refine G.op (og_callV rfl rfl (fun w hh => eqIntSS_any (xs := js) (ys := os) w (by exact Rd.owned 1 rfl _ hh) (by exact Subs.owned 0 rfl _ hh) (by exact Rd.owned 15 rfl _ hh) (by exact Subs.owned 14 rfl _ hh))) rfl (fun _ _ => ?_)
                           refine G.v (rv_not rfl) rfl ?_
                           refine G.done ?_
                           refine G.thenN ?_
                           refine G.cond rfl (fun hc => ?_) (fun hc => ?_)
                           · try exact Bool.noConfusion hc
                             all_goals
                              try replace hc := of_decide_eq_true hc
                              try (exfalso; contradiction)
                              all_goals
                               refine G.seq ?_
                               refine G.region ?_
                               refine G.v (rv_assign rfl) rfl ?_
                               refine G.done ?_
                               refine G.thenN ?_
                               refine G.ret ?_
                               refine G.thenR ?_
                               (exfalso; simp_all; done)
                           · try exact Bool.noConfusion hc
                             all_goals
                              try replace hc := of_decide_eq_false hc
                              try (exfalso; contradiction)
                              all_goals
                               refine G.skip ?_
                               refine G.thenN ?_
                               refine G.seq ?_
                               refine G.region ?_
                               refine G.v (rv_assign rfl) rfl ?_
                               refine G.done ?_
                               refine G.thenN ?_
                               refine G.seq ?_
                               refine G.region ?_
                               refine G.v (rv_move rfl) rfl ?_
                               refine G.v (rv_move rfl) rfl ?_
                               refine G.op (og_callV rfl rfl (fun w hh => heldIntSS_marked (l := gs) w (by exact Rd.owned 6 rfl _ hh) (by exact Subs.owned 5 rfl _ hh) (by omega) (by omega))) rfl (fun _ _ => ?_)
                               refine G.v (rv_assign rfl) rfl ?_
                               refine G.done ?_
                               refine G.thenN ?_
                               refine G.seq ?_
                               refine G.seq ?_
                               refine G.region ?_
                               refine G.v (rv_move rfl) rfl ?_
                               refine G.v (rv_lss rfl rfl) rfl ?_
                               refine G.done ?_
                               refine G.thenN ?_
                               refine G.cond rfl (fun hc => ?_) (fun hc => ?_)
                               · try exact Bool.noConfusion hc
                                 all_goals
                                  try replace hc := of_decide_eq_true hc
                                  try (exfalso; contradiction)
                                  all_goals
                                   refine G.seq ?_
                                   refine G.region ?_
                                   refine G.v (rv_assign rfl) rfl ?_
                                   refine G.done ?_
                                   refine G.thenN ?_
                                   refine G.ret ?_
                                   refine G.thenR ?_
                                   exact G.retFV rfl rfl rfl
                               · try exact Bool.noConfusion hc
                                 all_goals
                                  try replace hc := of_decide_eq_false hc
                                  try (exfalso; contradiction)
                                  all_goals
                                   refine G.skip ?_
                                   refine G.thenN ?_
                                   refine G.seq ?_
                                   refine G.seq ?_
                                   refine G.region ?_
                                   refine G.v (rv_move rfl) rfl ?_
                                   refine G.v (rv_move rfl) rfl ?_
                                   refine G.v (rv_neq rfl rfl) rfl ?_
                                   refine G.done ?_
                                   refine G.thenN ?_
                                   refine G.cond rfl (fun hc => ?_) (fun hc => ?_)
                                   · try exact Bool.noConfusion hc
                                     all_goals
                                      try replace hc := of_decide_eq_true hc
                                      try (exfalso; contradiction)
                                      all_goals
                                       refine G.seq ?_
                                       refine G.region ?_
                                       refine G.v (rv_assign rfl) rfl ?_
                                       refine G.done ?_
                                       refine G.thenN ?_
                                       refine G.ret ?_
                                       refine G.thenR ?_
                                       exact G.retFV rfl rfl rfl
                                   · try exact Bool.noConfusion hc
                                     all_goals
                                      try replace hc := of_decide_eq_false hc
                                      try (exfalso; contradiction)
                                      all_goals
                                       refine G.skip ?_
                                       refine G.thenN ?_
                                       refine G.seq ?_
                                       refine G.region ?_
                                       refine G.v (rv_assign rfl) rfl ?_
                                       refine G.done ?_
                                       refine G.thenN ?_
                                       refine G.ret ?_
                                       exact G.retFV rfl rfl rfl
end Go.Proofs.YtibkggjbkgdnkaaGreat

/-
  The units of a group: both ways, and the law.
-/
namespace Go.Proofs.YtibkggjbkgdnkaaGreat
open Go.RowKit
attribute [local irreducible] Go.wpList Go.Code.wp Go.Exit.then Go.Exit.inBlock Go.bodyPost Go.Calls pE pB G RunsV FnV Fn FnM
set_option maxRecDepth 100000
set_option maxHeartbeats 4000000
def clsAt (r : ReqM) (i : Nat) : Int := ((r.items[i]?).getD itemZ).cls
/-- The places of those units that a group holds. -/
def unitsIn (r : ReqM) (g : List Int) (l : List Nat) : List Nat := (l.zipIdx.filter (fun p => hasM g (clsAt r p.1))).map Prod.snd
theorem in_next {r : ReqM} {g : List Int} {l : List Nat} {k i : Nat} (hb : l[k]? = some i) : unitsIn r g (l.take (k + 1)) = unitsIn r g (l.take k) ++ (if hasM g (clsAt r i) then [k] else []) := by
  have hk := (List.getElem?_eq_some_iff.1 hb).1
  simp only [unitsIn, List.take_add_one, hb, Option.toList_some, List.zipIdx_append, List.filter_append, List.map_append, List.length_take]
  rw [Nat.min_eq_left (by omega)]
  cases h : hasM g (clsAt r i) <;> simp [h]
theorem in_yes {r : ReqM} {g : List Int} {l : List Nat} {k i : Nat} {x : ItemM} (hb : l[k]? = some i) (hx : r.items[i]? = some x) (h : hasM g x.cls = true) : (unitsIn r g (l.take k)).map ncell ++ [[.int .i64 (k : Int)]] = (unitsIn r g (l.take (k + 1))).map ncell := by
  rw [in_next hb, clsAt, hx, show (some x).getD itemZ = x from rfl, if_pos h, List.map_append]; rfl
theorem in_no {r : ReqM} {g : List Int} {l : List Nat} {k i : Nat} {x : ItemM} (hb : l[k]? = some i) (hx : r.items[i]? = some x) (h : hasM g x.cls = false) : (unitsIn r g (l.take k)).map ncell = (unitsIn r g (l.take (k + 1))).map ncell := by
  rw [in_next hb, clsAt, hx, if_neg (by rw [show (some x).getD itemZ = x from rfl, h]; decide), List.append_nil]
theorem in_len (r : ReqM) (g : List Int) (l : List Nat) : (unitsIn r g l).length ≤ l.length := by
  rw [unitsIn, List.length_map]
  have := List.length_filter_le (fun p : Nat × Nat => hasM g (clsAt r p.1)) l.zipIdx
  rwa [List.length_zipIdx] at this
/-- The units of a group of an order. -/
def unitsOfM (r : ReqM) (k : Int) : List Nat := if inB k 0 (((groupsOfM r).length : Int) - 1) then unitsIn r ((groupsOfM r).getD k.toNat []) (unitsM r) else []
theorem unitsOf_yes {r : ReqM} {ts : List (List Int × Value)} {m : Nat} {b : List Int × Value} (hM : ts.map Prod.fst = groupsOfM r) (hb : ts[m]? = some b) : unitsOfM r (m : Int) = unitsIn r b.1 (unitsM r) := by
  have hm := (List.getElem?_eq_some_iff.1 hb).1
  have e : (groupsOfM r)[m]? = some b.1 := by rw [← hM, List.getElem?_map, hb]; rfl
  have e2 : (groupsOfM r).length = ts.length := by rw [← hM, List.length_map]
  rw [unitsOfM, if_pos (by simp only [inB, Bool.and_eq_true, decide_eq_true_eq]; omega), Int.toNat_natCast, List.getD_eq_getElem?_getD, e]; rfl
theorem unitsOf_no {r : ReqM} {ts : List (List Int × Value)} {k : Int} (hM : ts.map Prod.fst = groupsOfM r) (h : inB k 0 (((ts.map gcell).length : Int) - 1) = false) : unitsOfM r k = [] := by
  have e2 : (ts.map gcell).length = (groupsOfM r).length := by rw [← hM]; simp
  rw [unitsOfM, ← e2, h]; rfl
theorem group_in {ts : List (List Int × Value)} {k : Int} (h : inB k 0 (((ts.map gcell).length : Int) - 1) = true) : ∃ (m : Nat) (b : List Int × Value), k = m ∧ ts[m]? = some b := by
  simp only [inB, Bool.and_eq_true, decide_eq_true_eq, List.length_map] at h
  obtain ⟨m, rfl⟩ : ∃ m : Nat, k = m := ⟨k.toNat, by omega⟩
  obtain ⟨b, hb⟩ := get_of_lt (l := ts) (k := m) (by omega)
  exact ⟨m, b, rfl, hb⟩
theorem group_sound {r : ReqM} {ts : List (List Int × Value)} {m : Nat} {b : List Int × Value} (hM : ts.map Prod.fst = groupsOfM r) (hb : ts[m]? = some b) : classM r = 0 := by
  rcases Classical.em (classM r = 0) with h | h
  · exact h
  · have e := congrArg List.length hM
    rw [groupsOf_no h, List.length_map] at e
    have hm := (List.getElem?_eq_some_iff.1 hb).1
    simp at e; simp [e] at hm
section
variable {r : ReqM} {pv tv iv : Value} (w : World) (h : Rd w pv 2 (r.pairs.map PairM.cells)) (h2 : Rd w tv 7 (r.types.map TypeM.cells)) (h3 : Rd w iv 7 (r.items.map ItemM.cells))
include h h2 h3
theorem unitsOf_any (z : Int) : Fn Tryz.prog 28 [.agg (r.cells pv tv iv).toArray, .int .i64 z] w (fun v : Value => v.oneCell' = true) (fun v => v) (fun v => [.row v 3 1 ((unitsOfM r z).map ncell)]) := by
  have hun := unitsM_len r
  have hun2 : ((unitsM r).map ncell).length = (unitsM r).length := by simp
  refine Fn.of (n := 43) Tryz.func28 rfl rfl ?_
  refine G.seq ?_
  refine G.region ?_
  refine G.op (og_box rfl rfl) rfl (fun bk2 _ => ?_)
  refine G.v (rv_assign rfl) rfl ?_
  refine G.done ?_
  refine G.thenN ?_
  refine G.seq ?_
  refine G.region ?_
  (refine G.v (rv_loadW 0 rfl rfl rfl) rfl ?_)
  (refine G.op (og_callF2 rfl rfl (fun w hh => groupsOf_any (r := r) w (Rd.stays h _ hh) (Rd.stays h2 _ hh) (Rd.stays h3 _ hh))) rfl ?_; rintro ⟨vo, ts⟩ ⟨hvo, hts⟩; try dsimp only)
  have hgl : (ts.map gcell).length ≤ 4 := by (have e := congrArg List.length hts; have := putAll_len (fun g x => joinsM r.pairs g x) (presI r); have h4 := presI_len r; simp only [List.length_map, groupsOfM, groupsM] at e ⊢; omega)
  refine G.v (rv_assign rfl) rfl ?_
  refine G.done ?_
  refine G.thenN ?_
  refine G.seq ?_
  refine G.seq ?_
  refine G.region ?_
  refine G.v (rv_move rfl) rfl ?_
  refine G.v (rv_move rfl) rfl ?_
  refine G.v (rv_len rfl (by exact Rd.owned 1 rfl)) rfl ?_
  refine G.v (rv_subB rfl rfl (by omega) (by omega)) rfl ?_
  refine G.op (og_callV rfl rfl (fun w _ => in_any _ _ _ w)) rfl (fun _ _ => ?_)
  refine G.v (rv_not rfl) rfl ?_
  refine G.done ?_
  refine G.thenN ?_
  refine G.cond rfl (fun hc => ?_) (fun hc => ?_)
  · try exact Bool.noConfusion hc
    all_goals
     try replace hc := of_decide_eq_true hc
     try simp only [hun2] at hc
     try (exfalso; contradiction)
     all_goals
      have hno : inB z 0 (((ts.map gcell).length : Int) - 1) = false := by simpa using hc
      all_goals
       refine G.seq ?_
       refine G.region ?_
       refine G.v (rv_assign rfl) rfl ?_
       refine G.done ?_
       refine G.thenN ?_
       refine G.ret ?_
       refine G.thenR ?_
       (exact G.retF (.slice none 0 0) rfl rfl rfl rfl (fun w hw => by rw [unitsOf_no hts hno]; exact (hw.none).nilRow _ _))
  · try exact Bool.noConfusion hc
    all_goals
     try replace hc := of_decide_eq_false hc
     try simp only [hun2] at hc
     try (exfalso; contradiction)
     all_goals
      obtain ⟨m, g, rfl, hmg⟩ := group_in (by simpa using hc : inB z 0 (((ts.map gcell).length : Int) - 1) = true)
      have heg := get_map hmg gcell
      all_goals
       refine G.skip ?_
       refine G.thenN ?_
       refine G.seq ?_
       refine G.region ?_
       refine G.op (og_lit rfl .nil rfl rfl rfl rfl rfl rfl) rfl (fun vl _ => ?_)
       refine G.v (rv_assign rfl) rfl ?_
       refine G.done ?_
       refine G.thenN ?_
       refine G.seq ?_
       refine G.seq ?_
       refine G.region ?_
       (refine G.v (rv_loadW 3 rfl rfl rfl) rfl ?_)
       (refine G.op (og_callF1 rfl rfl (fun w hh => units_any (r := r) w (Rd.stays h _ hh) (Rd.stays h2 _ hh) (Rd.stays h3 _ hh))) rfl ?_; rintro vu hvu; try dsimp only)
       refine G.v (rv_len rfl (by exact Rd.owned 0 rfl)) rfl ?_
       refine G.v (rv_move rfl) rfl ?_
       refine G.done ?_
       refine G.thenN ?_
       refine G.block ?_
       -- loop 0: turned [6, 21], kept [1, 2, 5, 19, 20]
       (refine G.frontR1 vl rfl ?_)
       refine G.loopK (ι := Nat × Value) (ks := [1, 2, 5, 19, 20]) (fun x => [(6, x.2), (21, .int .i64 (x.1 : Int))]) (fun x => [.row x.2 3 1 ((unitsIn r g.1 ((unitsM r).take x.1)).map ncell)]) (fun x => x.1 ≤ (unitsM r).length) (fun x => (unitsM r).length - x.1) (0, vl) (.cons rfl (.cons rfl (.cons rfl (.cons rfl (.cons rfl (.nil)))))) rfl ?_ ?_ ?_
       · exact Nat.zero_le _
       · exact ⟨rfl, rfl, trivial⟩
       rintro ⟨k, v⟩ hk
       dsimp only at hk ⊢
       have hil := in_len r g.1 ((unitsM r).take k)
       have hil2 : ((unitsIn r g.1 ((unitsM r).take k)).map ncell).length = (unitsIn r g.1 ((unitsM r).take k)).length := by simp
       rw [List.length_take] at hil
       by_cases hlt : k < (unitsM r).length
       case' pos => (obtain ⟨i, hb⟩ := get_of_lt hlt; have e1 := get_map hb ncell; obtain ⟨x, hx⟩ := get_of_lt (unitsM_lt i (List.mem_of_getElem? hb)); have e3 := get_map hx ItemM.cells)
       all_goals
        refine G.seq ?_
        refine G.region ?_
        refine G.v (rv_lss rfl rfl) rfl ?_
        refine G.done ?_
        refine G.thenN ?_
        refine G.seq ?_
        refine G.cond rfl (fun hc => ?_) (fun hc => ?_)
        · try exact Bool.noConfusion hc
          all_goals
           try replace hc := of_decide_eq_true hc
           try simp only [hun2] at hc
           try (exfalso; omega)
           all_goals
            refine G.skip ?_
            refine G.thenN ?_
            refine G.seq ?_
            refine G.block ?_
            refine G.seq ?_
            refine G.region ?_
            refine G.v (rv_move rfl) rfl ?_
            (refine G.v (rv_indexH rfl rfl (by exact Rd.owned 1 rfl) rfl (by exact e1)) rfl ?_)
            refine G.v (rv_loadE rfl (by exact Rd.owned 1 rfl) (by exact e1) rfl) rfl ?_
            refine G.v (rv_assign rfl) rfl ?_
            refine G.v (rv_assign rfl) rfl ?_
            refine G.done ?_
            refine G.thenN ?_
            refine G.seq ?_
            refine G.drawL [] ?_
            refine GE.q 0 rfl (by as_aux_lemma => kernel_rfl) rfl (qg_runs (rv_move rfl)) rfl ?_
            refine GE.q 1 rfl (by as_aux_lemma => kernel_rfl) rfl (qg_runs (rv_move rfl)) rfl ?_
            (refine GE.q 2 rfl (by as_aux_lemma => kernel_rfl) rfl (qg_runs (rv_indexH rfl rfl (by exact Rd.owned 3 rfl) rfl (by exact heg))) rfl ?_)
            refine GE.q 3 rfl (by as_aux_lemma => kernel_rfl) rfl (qg_runs (rv_loadE rfl (by exact Rd.owned 3 rfl) (by exact heg) rfl)) rfl ?_
            (refine GE.q 4 rfl (by as_aux_lemma => kernel_rfl) rfl (qg_runs (rv_field rfl)) rfl ?_)
            (refine GE.q 5 rfl (by as_aux_lemma => kernel_rfl) rfl (qg_runs (rv_load1 4 rfl rfl rfl)) rfl ?_)
            refine GE.ol 6 (by as_aux_lemma => kernel_rfl) rfl rfl (og_runs (rv_move rfl)) rfl (fun _ _ h => by exact h) (fun _ _ => ?_)
            (refine GE.ol 7 (by as_aux_lemma => kernel_rfl) rfl rfl (og_runs (rv_indexH rfl rfl (by exact Rd.stays (by assumption)) rfl (by exact e3))) rfl (fun _ _ h => by exact h) (fun _ _ => ?_))
            (refine GE.ol 8 (by as_aux_lemma => kernel_rfl) rfl rfl (og_runs (rv_fieldE rfl)) rfl (fun _ _ h => by exact h) (fun _ _ => ?_))
            refine GE.ol 9 (by as_aux_lemma => kernel_rfl) rfl rfl (og_runs (rv_loadE rfl (by exact Rd.stays (by assumption)) (by exact e3) rfl)) rfl (fun _ _ h => by exact h) (fun _ _ => ?_)
            refine GE.ol 10 (by as_aux_lemma => kernel_rfl) rfl rfl (og_callV rfl rfl (fun w hh => hasInt_any (l := g.1) x.cls w (Subs.at (by exact Subs.owned 2 rfl _ hh) hmg))) rfl (fun _ _ h => by exact h) (fun _ _ => ?_)
            refine GE.done (by as_aux_lemma => kernel_rfl) ?_
            refine G.thenN ?_
            refine G.cond rfl (fun hc => ?_) (fun hc => ?_)
            · try exact Bool.noConfusion hc
              all_goals
               try replace hc := of_decide_eq_true hc
               try simp only [hun2] at hc
               try (exfalso; contradiction)
               all_goals
                refine G.region ?_
                refine G.v (rv_move rfl) rfl ?_
                refine G.v (rv_move rfl) rfl ?_
                refine G.op (og_lit rfl (.cons rfl .nil) rfl rfl rfl rfl rfl rfl) rfl (fun vx _ => ?_)
                ((refine G.op (og_app1 rfl rfl rfl (by exact Rd.owned 0 rfl) rfl rfl (by simp; omega) (by simp; omega)) rfl (fun va _ => ?_)))
                refine G.v (rv_assign rfl) rfl ?_
                refine G.done ?_
                refine G.inN ?_
                refine G.thenN ?_
                refine G.region ?_
                (refine G.v (rv_incr rfl rfl (by omega)) rfl ?_)
                refine G.v (rv_move rfl) rfl ?_
                refine G.done ?_
                refine G.backK (k + 1, va) 1 (by exact one_eq (congrArg (fun z => Ch.row va 3 1 z) (in_yes hb hx hc))) (.cons rfl (.cons rfl (.cons rfl (.cons rfl (.cons rfl (.nil)))))) (⟨rfl, rfl, trivial⟩) ?_ ?_
                · exact hlt
                · dsimp only; omega
            · try exact Bool.noConfusion hc
              all_goals
               try replace hc := of_decide_eq_false hc
               try simp only [hun2] at hc
               try (exfalso; contradiction)
               all_goals
                refine G.skip ?_
                refine G.inN ?_
                refine G.thenN ?_
                refine G.region ?_
                (refine G.v (rv_incr rfl rfl (by omega)) rfl ?_)
                refine G.v (rv_move rfl) rfl ?_
                refine G.done ?_
                refine G.backK (k + 1, v) 0 (by exact one_eq (congrArg (fun z => Ch.row v 3 1 z) (in_no hb hx hc))) (.cons rfl (.cons rfl (.cons rfl (.cons rfl (.cons rfl (.nil)))))) (⟨rfl, rfl, trivial⟩) ?_ ?_
                · exact hlt
                · dsimp only; omega
        · try exact Bool.noConfusion hc
          all_goals
           try replace hc := of_decide_eq_false hc
           try simp only [hun2] at hc
           try (exfalso; omega)
           all_goals
            refine G.exit ?_
            refine G.thenX ?_
            refine G.thenX ?_
            refine G.inX ?_
            refine G.thenN ?_
            refine G.seq ?_
            refine G.region ?_
            refine G.v (rv_move rfl) rfl ?_
            refine G.v (rv_assign rfl) rfl ?_
            refine G.done ?_
            refine G.thenN ?_
            refine G.ret ?_
            (refine G.know (fun w hw => (Rd.owned 0 rfl w hw).one_) (fun hone => G.retF v hone rfl rfl rfl (fun w hw => by rw [take_all (l := unitsM r) (by omega), ← unitsOf_yes hts hmg] at hw; exact hw.sublist (by repeat (first | exact List.Sublist.refl _ | refine List.Sublist.cons_cons _ ?_ | refine List.Sublist.cons _ ?_)))); done)
theorem sunitsOf_any (z : Int) : Fn Tryz.prog 27 [.agg (r.cells pv tv iv).toArray, .int .i64 z] w (fun v : Value => v.oneCell' = true) (fun v => v) (fun v => [.row v 3 1 ((unitsOfM r z).map ncell)]) := by
  have hun := unitsM_len r
  have hun2 : ((unitsM r).map ncell).length = (unitsM r).length := by simp
  refine Fn.of (n := 46) Tryz.func27 rfl rfl ?_
  refine G.seq ?_
  refine G.region ?_
  refine G.op (og_box rfl rfl) rfl (fun bk2 _ => ?_)
  refine G.v (rv_assign rfl) rfl ?_
  refine G.done ?_
  refine G.thenN ?_
  refine G.seq ?_
  refine G.region ?_
  refine G.op (og_lit rfl .nil rfl rfl rfl rfl rfl rfl) rfl (fun vl _ => ?_)
  refine G.v (rv_assign rfl) rfl ?_
  refine G.done ?_
  refine G.thenN ?_
  refine G.seq ?_
  refine G.region ?_
  (refine G.v (rv_loadW 1 rfl rfl rfl) rfl ?_)
  (refine G.op (og_callF2 rfl rfl (fun w hh => sgroupsOf_any (r := r) w (Rd.stays h _ hh) (Rd.stays h2 _ hh) (Rd.stays h3 _ hh))) rfl ?_; rintro ⟨vo, ts⟩ ⟨hvo, hts⟩; try dsimp only)
  have hgl : (ts.map gcell).length ≤ 4 := by (have e := congrArg List.length hts; have := putAll_len (fun g x => joinsM r.pairs g x) (presI r); have h4 := presI_len r; simp only [List.length_map, groupsOfM, groupsM] at e ⊢; omega)
  refine G.v (rv_assign rfl) rfl ?_
  refine G.done ?_
  refine G.thenN ?_
  refine G.seq ?_
  refine G.seq ?_
  refine G.region ?_
  refine G.v (rv_move rfl) rfl ?_
  refine G.v (rv_move rfl) rfl ?_
  refine G.v (rv_len rfl (by exact Rd.owned 1 rfl)) rfl ?_
  refine G.v (rv_subB rfl rfl (by omega) (by omega)) rfl ?_
  refine G.op (og_callV rfl rfl (fun w _ => l1In_any _ _ _ w)) rfl (fun _ _ => ?_)
  refine G.v (rv_not rfl) rfl ?_
  refine G.done ?_
  refine G.thenN ?_
  refine G.cond rfl (fun hc => ?_) (fun hc => ?_)
  · try exact Bool.noConfusion hc
    all_goals
     try replace hc := of_decide_eq_true hc
     try simp only [hun2] at hc
     try (exfalso; contradiction)
     all_goals
      have hno : inB z 0 (((ts.map gcell).length : Int) - 1) = false := by simpa using hc
      all_goals
       refine G.seq ?_
       refine G.region ?_
       refine G.v (rv_move rfl) rfl ?_
       refine G.v (rv_assign rfl) rfl ?_
       refine G.done ?_
       refine G.thenN ?_
       refine G.ret ?_
       refine G.thenR ?_
       ((refine G.frontR2 vl rfl ?_); refine G.know (fun w hw => (Rd.owned 0 rfl w hw).one_) (fun hone => G.retF vl hone rfl rfl rfl (fun w hw => by rw [unitsOf_no hts hno]; exact hw.sublist (by repeat (first | exact List.Sublist.refl _ | refine List.Sublist.cons_cons _ ?_ | refine List.Sublist.cons _ ?_)))))
  · try exact Bool.noConfusion hc
    all_goals
     try replace hc := of_decide_eq_false hc
     try simp only [hun2] at hc
     try (exfalso; contradiction)
     all_goals
      obtain ⟨m, g, rfl, hmg⟩ := group_in (by simpa using hc : inB z 0 (((ts.map gcell).length : Int) - 1) = true)
      have heg := get_map hmg gcell
      have hyes := group_sound hts hmg
      all_goals
       refine G.skip ?_
       refine G.thenN ?_
       refine G.seq ?_
       refine G.region ?_
       (refine G.v (rv_loadW 3 rfl rfl rfl) rfl ?_)
       (refine G.op (og_callF1 rfl rfl (fun w hh => by have q := sl6Units_any (r := r) (pv := pv) (tv := tv) w (bounds_items (cls_sound hyes)) (bounds_lens (cls_sound hyes)).1 (Rd.stays h3 _ hh); rw [← unitsM_yes hyes] at q; exact q)) rfl ?_; rintro vu hvu; try dsimp only)
       refine G.v (rv_assign rfl) rfl ?_
       refine G.done ?_
       refine G.thenN ?_
       refine G.seq ?_
       refine G.seq ?_
       refine G.region ?_
       refine G.v (rv_assign rfl) rfl ?_
       refine G.done ?_
       refine G.thenN ?_
       refine G.block ?_
       -- loop 0: turned [5, 8], kept [1, 2, 6, 7]
       (refine G.frontR3 vl rfl ?_)
       refine G.loopK (ι := Nat × Value) (ks := [1, 2, 6, 7]) (fun x => [(5, x.2), (8, .int .i64 (x.1 : Int))]) (fun x => [.row x.2 3 1 ((unitsIn r g.1 ((unitsM r).take x.1)).map ncell)]) (fun x => x.1 ≤ (unitsM r).length) (fun x => (unitsM r).length - x.1) (0, vl) (.cons rfl (.cons rfl (.cons rfl (.cons rfl (.nil))))) rfl ?_ ?_ ?_
       · exact Nat.zero_le _
       · exact ⟨rfl, rfl, trivial⟩
       rintro ⟨k, v⟩ hk
       dsimp only at hk ⊢
       have hil := in_len r g.1 ((unitsM r).take k)
       have hil2 : ((unitsIn r g.1 ((unitsM r).take k)).map ncell).length = (unitsIn r g.1 ((unitsM r).take k)).length := by simp
       rw [List.length_take] at hil
       by_cases hlt : k < (unitsM r).length
       case' pos => (obtain ⟨i, hb⟩ := get_of_lt hlt; have e1 := get_map hb ncell; obtain ⟨x, hx⟩ := get_of_lt (unitsM_lt i (List.mem_of_getElem? hb)); have e3 := get_map hx ItemM.cells)
       all_goals
        refine G.seq ?_
        refine G.seq ?_
        refine G.region ?_
        refine G.v (rv_move rfl) rfl ?_
        refine G.v (rv_move rfl) rfl ?_
        refine G.v (rv_len rfl (by exact Rd.owned 1 rfl)) rfl ?_
        refine G.v (rv_lss rfl rfl) rfl ?_
        refine G.done ?_
        refine G.thenN ?_
        refine G.cond rfl (fun hc => ?_) (fun hc => ?_)
        · try exact Bool.noConfusion hc
          all_goals
           try replace hc := of_decide_eq_true hc
           try simp only [hun2] at hc
           try (exfalso; omega)
           all_goals
            refine G.skip ?_
            refine G.thenN ?_
            refine G.seq ?_
            refine G.block ?_
            refine G.seq ?_
            refine G.drawL [] ?_
            refine GE.q 0 rfl (by as_aux_lemma => kernel_rfl) rfl (qg_runs (rv_move rfl)) rfl ?_
            refine GE.q 1 rfl (by as_aux_lemma => kernel_rfl) rfl (qg_runs (rv_move rfl)) rfl ?_
            (refine GE.q 2 rfl (by as_aux_lemma => kernel_rfl) rfl (qg_runs (rv_indexH rfl rfl (by exact Rd.owned 3 rfl) rfl (by exact heg))) rfl ?_)
            refine GE.q 3 rfl (by as_aux_lemma => kernel_rfl) rfl (qg_runs (rv_loadE rfl (by exact Rd.owned 3 rfl) (by exact heg) rfl)) rfl ?_
            (refine GE.q 4 rfl (by as_aux_lemma => kernel_rfl) rfl (qg_runs (rv_field rfl)) rfl ?_)
            (refine GE.q 5 rfl (by as_aux_lemma => kernel_rfl) rfl (qg_runs (rv_load1 4 rfl rfl rfl)) rfl ?_)
            refine GE.q 6 rfl (by as_aux_lemma => kernel_rfl) rfl (qg_runs (rv_move rfl)) rfl ?_
            refine GE.ol 7 (by as_aux_lemma => kernel_rfl) rfl rfl (og_runs (rv_move rfl)) rfl (fun _ _ h => by exact h) (fun _ _ => ?_)
            (refine GE.ol 8 (by as_aux_lemma => kernel_rfl) rfl rfl (og_runs (rv_indexH rfl rfl (by exact Rd.owned 1 rfl) rfl (by exact e1))) rfl (fun _ _ h => by exact h) (fun _ _ => ?_))
            refine GE.ol 9 (by as_aux_lemma => kernel_rfl) rfl rfl (og_runs (rv_loadE rfl (by exact Rd.owned 1 rfl) (by exact e1) rfl)) rfl (fun _ _ h => by exact h) (fun _ _ => ?_)
            (refine GE.ol 10 (by as_aux_lemma => kernel_rfl) rfl rfl (og_runs (rv_indexH rfl rfl (by exact Rd.stays (by assumption)) rfl (by exact e3))) rfl (fun _ _ h => by exact h) (fun _ _ => ?_))
            (refine GE.ol 11 (by as_aux_lemma => kernel_rfl) rfl rfl (og_runs (rv_fieldE rfl)) rfl (fun _ _ h => by exact h) (fun _ _ => ?_))
            refine GE.ol 12 (by as_aux_lemma => kernel_rfl) rfl rfl (og_runs (rv_loadE rfl (by exact Rd.stays (by assumption)) (by exact e3) rfl)) rfl (fun _ _ h => by exact h) (fun _ _ => ?_)
            refine GE.ol 13 (by as_aux_lemma => kernel_rfl) rfl rfl (og_callV rfl rfl (fun w hh => l1Has_any (l := g.1) x.cls w (Subs.at (by exact Subs.owned 2 rfl _ hh) hmg))) rfl (fun _ _ h => by exact h) (fun _ _ => ?_)
            refine GE.done (by as_aux_lemma => kernel_rfl) ?_
            refine G.thenN ?_
            refine G.cond rfl (fun hc => ?_) (fun hc => ?_)
            · try exact Bool.noConfusion hc
              all_goals
               try replace hc := of_decide_eq_true hc
               try simp only [hun2] at hc
               try (exfalso; contradiction)
               all_goals
                refine G.region ?_
                refine G.v (rv_move rfl) rfl ?_
                refine G.v (rv_move rfl) rfl ?_
                refine G.op (og_lit rfl (.cons rfl .nil) rfl rfl rfl rfl rfl rfl) rfl (fun vx _ => ?_)
                ((refine G.op (og_app1 rfl rfl rfl (by exact Rd.owned 0 rfl) rfl rfl (by simp; omega) (by simp; omega)) rfl (fun va _ => ?_)))
                refine G.v (rv_assign rfl) rfl ?_
                refine G.done ?_
                refine G.inN ?_
                refine G.thenN ?_
                refine G.region ?_
                refine G.v (rv_move rfl) rfl ?_
                (refine G.v (rv_incr rfl rfl (by omega)) rfl ?_)
                refine G.v (rv_assign rfl) rfl ?_
                refine G.done ?_
                refine G.backK (k + 1, va) 1 (by exact one_eq (congrArg (fun z => Ch.row va 3 1 z) (in_yes hb hx hc))) (.cons rfl (.cons rfl (.cons rfl (.cons rfl (.nil))))) (⟨rfl, rfl, trivial⟩) ?_ ?_
                · exact hlt
                · dsimp only; omega
            · try exact Bool.noConfusion hc
              all_goals
               try replace hc := of_decide_eq_false hc
               try simp only [hun2] at hc
               try (exfalso; contradiction)
               all_goals
                refine G.skip ?_
                refine G.inN ?_
                refine G.thenN ?_
                refine G.region ?_
                refine G.v (rv_move rfl) rfl ?_
                (refine G.v (rv_incr rfl rfl (by omega)) rfl ?_)
                refine G.v (rv_assign rfl) rfl ?_
                refine G.done ?_
                refine G.backK (k + 1, v) 0 (by exact one_eq (congrArg (fun z => Ch.row v 3 1 z) (in_no hb hx hc))) (.cons rfl (.cons rfl (.cons rfl (.cons rfl (.nil))))) (⟨rfl, rfl, trivial⟩) ?_ ?_
                · exact hlt
                · dsimp only; omega
        · try exact Bool.noConfusion hc
          all_goals
           try replace hc := of_decide_eq_false hc
           try simp only [hun2] at hc
           try (exfalso; omega)
           all_goals
            refine G.exit ?_
            refine G.thenX ?_
            refine G.thenX ?_
            refine G.inX ?_
            refine G.thenN ?_
            refine G.seq ?_
            refine G.region ?_
            refine G.v (rv_move rfl) rfl ?_
            refine G.v (rv_assign rfl) rfl ?_
            refine G.done ?_
            refine G.thenN ?_
            refine G.ret ?_
            (refine G.know (fun w hw => (Rd.owned 0 rfl w hw).one_) (fun hone => G.retF v hone rfl rfl rfl (fun w hw => by rw [take_all (l := unitsM r) (by omega), ← unitsOf_yes hts hmg] at hw; exact hw.sublist (by repeat (first | exact List.Sublist.refl _ | refine List.Sublist.cons_cons _ ?_ | refine List.Sublist.cons _ ?_)))); done)
end
theorem unitsOf_len (r : ReqM) (z : Int) : (unitsOfM r z).length ≤ 48 := by
  rw [unitsOfM]
  split
  · have h1 := in_len r ((groupsOfM r).getD z.toNat []) (unitsM r)
    have h2 := unitsM_len r
    omega
  · simp
theorem ncell_eq (l : List Nat) : l.map ncell = (l.map (fun n : Nat => (n : Int))).map icell := by rw [List.map_map]; rfl
theorem fnExactUnitsOf_any {pv tv iv : Value} {w : World} (r : ReqM) (hr : RqRd w r pv tv iv) (z : Int) :
    FnV Tryz.prog 4 [.agg (r.cells pv tv iv).toArray, .int .i64 z] w (.bool true) := by
  obtain ⟨h, h2, h3⟩ := hr
  have hcR := cntR_in (r := r)
  have hul := unitsOf_len r z
  obtain ⟨us, hus⟩ : ∃ us : List Int, us = (unitsOfM r z).map (fun n : Nat => (n : Int)) := ⟨_, rfl⟩
  have hul2 : us.length ≤ 48 := by rw [hus, List.length_map]; exact hul
  have hgt : cntG cntI us = 1 * us.length := cnt_const (cnt := cntI) (m := 1) (fun _ => rfl) us
  refine FnV.of (n := 74) Tryz.func4 rfl rfl ?_
  refine G.seq ?_
  refine G.region ?_
  refine G.op (og_box rfl rfl) rfl (fun bk2 _ => ?_)
  refine G.v (rv_assign rfl) rfl ?_
  refine G.done ?_
  refine G.thenN ?_
  refine G.seq ?_
  refine G.region ?_
  refine G.v (rv_assign rfl) rfl ?_
  refine G.done ?_
  refine G.thenN ?_
  refine G.seq ?_
  refine G.region ?_
  (refine G.v (rv_loadW 0 rfl rfl rfl) rfl ?_)
  refine G.v (rv_move rfl) rfl ?_
  refine G.op (og_callV rfl rfl (fun w hh => szRequest_any (r := r) _ w (Rd.stays h _ hh) (Rd.stays h2 _ hh) (Rd.stays h3 _ hh) (by omega) (by omega))) rfl (fun _ _ => ?_)
  refine G.v (rv_assign rfl) rfl ?_
  refine G.done ?_
  refine G.thenN ?_
  refine G.seq ?_
  refine G.seq ?_
  refine G.region ?_
  refine G.v (rv_move rfl) rfl ?_
  refine G.v (rv_lss rfl rfl) rfl ?_
  refine G.done ?_
  refine G.thenN ?_
  refine G.cond rfl (fun hc => ?_) (fun hc => ?_)
  · try exact Bool.noConfusion hc
    all_goals
     try replace hc := of_decide_eq_true hc
     try (exfalso; contradiction)
     all_goals
      refine G.seq ?_
      refine G.region ?_
      refine G.v (rv_assign rfl) rfl ?_
      refine G.done ?_
      refine G.thenN ?_
      refine G.ret ?_
      refine G.thenR ?_
      exact G.retFV rfl rfl rfl
  · try exact Bool.noConfusion hc
    all_goals
     try replace hc := of_decide_eq_false hc
     try (exfalso; contradiction)
     all_goals
      refine G.skip ?_
      refine G.thenN ?_
      refine G.seq ?_
      refine G.region ?_
      (refine G.v (rv_loadW 0 rfl rfl rfl) rfl ?_)
      ((refine G.op (og_callF3 rfl rfl (fun w hh => toRequest_any (r := r) w (Rd.stays h _ hh) (Rd.stays h2 _ hh) (Rd.stays h3 _ hh) (by (try simp only [szM] at *); omega))) rfl ?_; rintro ⟨pvN, tvN, ivN⟩ ⟨hovN, hov2N, hov3N⟩; try dsimp only))
      refine G.v (rv_move rfl) rfl ?_
      (refine G.op (og_callF1 rfl rfl (fun w hh => by have q := sunitsOf_any (r := r) (pv := pvN) (tv := tvN) (iv := ivN) w (by exact Rd.owned 2 rfl _ hh) (by exact Rd.owned 1 rfl _ hh) (by exact Rd.owned 0 rfl _ hh) z; rw [ncell_eq, ← hus] at q; exact q)) rfl ?_; rintro vo hvo; try dsimp only)
      refine G.v (rv_assign rfl) rfl ?_
      refine G.done ?_
      refine G.thenN ?_
      refine G.seq ?_
      refine G.region ?_
      (refine G.v (rv_loadW 4 rfl rfl rfl) rfl ?_)
      ((refine G.op (og_callF3 rfl rfl (fun w hh => toRequest_any (r := r) w (Rd.stays h _ hh) (Rd.stays h2 _ hh) (Rd.stays h3 _ hh) (by (try simp only [szM] at *); omega))) rfl ?_; rintro ⟨pv2, tv2, iv2⟩ ⟨hov2, hov22, hov32⟩; try dsimp only))
      refine G.op (og_alloc) rfl (fun bk7 _ => ?_)
      (refine G.op0 (og_st0 rfl rfl rfl rfl rfl (by repeat (first | rfl | refine one_cons (by first | rfl | assumption) ?_)) (.zero (.cons (.cons (.cons (.cons (.cons (.cons (.cons (.cons (.cons (.cons .nil)))))))))))) (fun _ _ => ?_))
      refine G.done ?_
      refine G.thenN ?_
      refine G.seq ?_
      refine G.region ?_
      (refine G.v (rv_loadW 0 rfl rfl rfl) rfl ?_)
      refine G.v (rv_move rfl) rfl ?_
      (refine G.op (og_callF1 rfl rfl (fun w hh => by have q := unitsOf_any (r := r) (pv := pv2) (tv := tv2) (iv := iv2) w (by exact Rd.owned 3 rfl _ hh) (by exact Rd.owned 2 rfl _ hh) (by exact Rd.owned 1 rfl _ hh) z; rw [ncell_eq, ← hus] at q; exact q)) rfl ?_; rintro vg hvg; try dsimp only)
      refine G.v (rv_assign rfl) rfl ?_
      refine G.done ?_
      refine G.thenN ?_
      refine G.seq ?_
      refine G.seq ?_
      refine G.region ?_
      refine G.v (rv_move rfl) rfl ?_
      refine G.v (rv_move rfl) rfl ?_
      refine G.op (og_callV rfl rfl (fun w hh => eqIntS_any (xs := us) (ys := us) w (by exact Rd.owned 0 rfl _ hh) (by exact Rd.owned 5 rfl _ hh))) rfl (fun _ _ => ?_)
      refine G.v (rv_not rfl) rfl ?_
      refine G.done ?_
      refine G.thenN ?_
      refine G.cond rfl (fun hc => ?_) (fun hc => ?_)
      · try exact Bool.noConfusion hc
        all_goals
         try replace hc := of_decide_eq_true hc
         try (exfalso; contradiction)
         all_goals
          refine G.seq ?_
          refine G.region ?_
          refine G.v (rv_assign rfl) rfl ?_
          refine G.done ?_
          refine G.thenN ?_
          refine G.ret ?_
          refine G.thenR ?_
          (exfalso; simp_all; done)
      · try exact Bool.noConfusion hc
        all_goals
         try replace hc := of_decide_eq_false hc
         try (exfalso; contradiction)
         all_goals
          refine G.skip ?_
          refine G.thenN ?_
          refine G.seq ?_
          refine G.seq ?_
          refine G.drawL [3] ?_
          (refine GE.q 0 rfl (by as_aux_lemma => kernel_rfl) rfl (qg_runs (rv_loadW 1 rfl rfl rfl)) rfl ?_)
          (refine GE.ol 1 (by as_aux_lemma => kernel_rfl) rfl rfl (og_runs (rv_loadW 9 rfl rfl rfl)) rfl (fun _ _ h => by exact h) (fun _ _ => ?_))
          ((refine GE.ol 2 (by as_aux_lemma => kernel_rfl) rfl rfl (og_callF3 rfl rfl (fun w hh => toRequest_any (r := r) w (Rd.stays h _ hh) (Rd.stays h2 _ hh) (Rd.stays h3 _ hh) (by (try simp only [szM] at *); omega))) rfl (fun _ _ h => by exact h.drop 3) ?_; rintro ⟨pv3, tv3, iv3⟩ ⟨hov3, hov23, hov33⟩; try dsimp only))
          refine GE.t 3 (by as_aux_lemma => kernel_rfl) rfl rfl rfl (og_callV rfl rfl (fun w hh => eqRequest_any (r := r) (s := r) w (by exact Rd.owned 7 rfl _ hh) (by exact Rd.owned 6 rfl _ hh) (by exact Rd.owned 5 rfl _ hh) (by exact Rd.owned 2 rfl _ hh) (by exact Rd.owned 1 rfl _ hh) (by exact Rd.owned 0 rfl _ hh))) rfl (fun _ _ => ?_)
          refine GE.ol 4 (by as_aux_lemma => kernel_rfl) rfl rfl (og_runs (rv_not rfl)) rfl (fun _ _ h => by exact h.drop 3) (fun _ _ => ?_)
          refine GE.done (by as_aux_lemma => kernel_rfl) ?_
          refine G.thenN ?_
          refine G.cond rfl (fun hc => ?_) (fun hc => ?_)
          · try exact Bool.noConfusion hc
            all_goals
             try replace hc := of_decide_eq_true hc
             try (exfalso; contradiction)
             all_goals
              refine G.seq ?_
              refine G.region ?_
              refine G.v (rv_assign rfl) rfl ?_
              refine G.done ?_
              refine G.thenN ?_
              refine G.ret ?_
              refine G.thenR ?_
              (exfalso; simp_all; done)
          · try exact Bool.noConfusion hc
            all_goals
             try replace hc := of_decide_eq_false hc
             try (exfalso; contradiction)
             all_goals
              refine G.skip ?_
              refine G.thenN ?_
              refine G.seq ?_
              refine G.region ?_
              refine G.v (rv_assign rfl) rfl ?_
              refine G.done ?_
              refine G.thenN ?_
              refine G.seq ?_
              refine G.region ?_
              (refine G.v (rv_loadW 4 rfl rfl rfl) rfl ?_)
              refine G.v (rv_move rfl) rfl ?_
              ((refine G.frontR7 (pv2) rfl ?_); (refine G.frontR7 (tv2) rfl ?_); (refine G.frontR7 (iv2) rfl ?_); refine G.op (og_callMM3 rfl rfl rfl (markRequest_any (r := r) (by omega) (by (try simp only [szM] at *); omega)).toF) rfl ?_; rintro ⟨⟩ _; try dsimp only)
              refine G.v (rv_assign rfl) rfl ?_
              refine G.done ?_
              refine G.thenN ?_
              refine G.seq ?_
              refine G.seq ?_
              refine G.region ?_
              refine G.v (rv_move rfl) rfl ?_
              refine G.v (rv_lss rfl rfl) rfl ?_
              refine G.v (rv_move rfl) rfl ?_
              all_goals (((with_reducible refine G.gP rfl rfl (fun hg => ?_) (fun hg => ?_)) <;> (try exact Bool.noConfusion hg) <;> ((refine G.gY rfl rfl ?_; refine G.v (rv_move rfl) rfl ?_))))
              all_goals (((refine G.gY rfl rfl ?_; refine G.v (rv_move rfl) rfl ?_)))
              all_goals (((refine G.gY rfl rfl ?_; refine G.op (og_callV rfl rfl (fun w hh => eqIntS_any (xs := us) (ys := us) w (by exact Rd.owned 6 rfl _ hh) (by exact Rd.owned 8 rfl _ hh))) rfl (fun _ _ => ?_))))
              all_goals (((refine G.gY rfl rfl ?_; refine G.v (rv_not rfl) rfl ?_)))
              all_goals ((refine G.v (rv_pickF rfl rfl) rfl ?_))
              all_goals
               refine G.done ?_
               refine G.thenN ?_
               refine G.cond rfl (fun hc => ?_) (fun hc => ?_)
               · try exact Bool.noConfusion hc
                 all_goals
                  try replace hc := of_decide_eq_true hc
                  try (exfalso; contradiction)
                  all_goals
                   refine G.seq ?_
                   refine G.region ?_
                   refine G.v (rv_assign rfl) rfl ?_
                   refine G.done ?_
                   refine G.thenN ?_
                   refine G.ret ?_
                   refine G.thenR ?_
                   (exfalso; simp_all; done)
               · try exact Bool.noConfusion hc
                 all_goals
                  try replace hc := of_decide_eq_false hc
                  try (exfalso; contradiction)
                  all_goals
                   refine G.skip ?_
                   refine G.thenN ?_
                   refine G.seq ?_
                   refine G.region ?_
                   refine G.v (rv_assign rfl) rfl ?_
                   refine G.done ?_
                   refine G.thenN ?_
                   refine G.seq ?_
                   refine G.region ?_
                   refine G.v (rv_move rfl) rfl ?_
                   refine G.v (rv_move rfl) rfl ?_
                   ((refine G.frontR6 (vg) rfl ?_); refine G.op (og_callMM1 rfl rfl rfl (markIntS_any (l := us) (by omega) (by omega)).toF) rfl ?_; rintro ⟨⟩ _; try dsimp only)
                   refine G.v (rv_assign rfl) rfl ?_
                   refine G.done ?_
                   refine G.thenN ?_
                   refine G.seq ?_
                   refine G.region ?_
                   refine G.v (rv_assign rfl) rfl ?_
                   refine G.done ?_
                   refine G.thenN ?_
                   refine G.seq ?_
                   refine G.region ?_
                   refine G.v (rv_move rfl) rfl ?_
                   refine G.v (rv_move rfl) rfl ?_
                   refine G.op (og_callV rfl rfl (fun w hh => heldIntS_marked (l := us) w (by exact Rd.owned 0 rfl _ hh) (by omega) (by omega))) rfl (fun _ _ => ?_)
                   refine G.v (rv_assign rfl) rfl ?_
                   refine G.done ?_
                   refine G.thenN ?_
                   refine G.seq ?_
                   refine G.seq ?_
                   refine G.region ?_
                   refine G.v (rv_move rfl) rfl ?_
                   refine G.v (rv_lss rfl rfl) rfl ?_
                   refine G.done ?_
                   refine G.thenN ?_
                   refine G.cond rfl (fun hc => ?_) (fun hc => ?_)
                   · try exact Bool.noConfusion hc
                     all_goals
                      try replace hc := of_decide_eq_true hc
                      try (exfalso; contradiction)
                      all_goals
                       refine G.seq ?_
                       refine G.region ?_
                       refine G.v (rv_assign rfl) rfl ?_
                       refine G.done ?_
                       refine G.thenN ?_
                       refine G.ret ?_
                       refine G.thenR ?_
                       exact G.retFV rfl rfl rfl
                   · try exact Bool.noConfusion hc
                     all_goals
                      try replace hc := of_decide_eq_false hc
                      try (exfalso; contradiction)
                      all_goals
                       refine G.skip ?_
                       refine G.thenN ?_
                       refine G.seq ?_
                       refine G.seq ?_
                       refine G.region ?_
                       refine G.v (rv_move rfl) rfl ?_
                       refine G.v (rv_move rfl) rfl ?_
                       refine G.v (rv_neq rfl rfl) rfl ?_
                       refine G.done ?_
                       refine G.thenN ?_
                       refine G.cond rfl (fun hc => ?_) (fun hc => ?_)
                       · try exact Bool.noConfusion hc
                         all_goals
                          try replace hc := of_decide_eq_true hc
                          try (exfalso; contradiction)
                          all_goals
                           refine G.seq ?_
                           refine G.region ?_
                           refine G.v (rv_assign rfl) rfl ?_
                           refine G.done ?_
                           refine G.thenN ?_
                           refine G.ret ?_
                           refine G.thenR ?_
                           exact G.retFV rfl rfl rfl
                       · try exact Bool.noConfusion hc
                         all_goals
                          try replace hc := of_decide_eq_false hc
                          try (exfalso; contradiction)
                          all_goals
                           refine G.skip ?_
                           refine G.thenN ?_
                           refine G.seq ?_
                           refine G.region ?_
                           (refine G.v (rv_loadW 12 rfl rfl rfl) rfl ?_)
                           ((refine G.op (og_callF3 rfl rfl (fun w hh => toRequest_any (r := r) w (Rd.stays h _ hh) (Rd.stays h2 _ hh) (Rd.stays h3 _ hh) (by (try simp only [szM] at *); omega))) rfl ?_; rintro ⟨pv4, tv4, iv4⟩ ⟨hov4, hov24, hov34⟩; try dsimp only))
                           refine G.v (rv_move rfl) rfl ?_
                           (refine G.op (og_callF1 rfl rfl (fun w hh => by have q := unitsOf_any (r := r) (pv := pv4) (tv := tv4) (iv := iv4) w (by exact Rd.owned 2 rfl _ hh) (by exact Rd.owned 1 rfl _ hh) (by exact Rd.owned 0 rfl _ hh) z; rw [ncell_eq, ← hus] at q; exact q)) rfl ?_; rintro vh hvh; try dsimp only)
                           refine G.v (rv_assign rfl) rfl ?_
                           refine G.done ?_
                           refine G.thenN ?_
                           refine G.seq ?_
                           refine G.seq ?_
                           refine G.region ?_
                           refine G.v (rv_move rfl) rfl ?_
                           refine G.v (rv_move rfl) rfl ?_
                           refine G.op (og_callV rfl rfl (fun w hh => eqIntS_any (xs := us) (ys := us) w (by exact Rd.owned 0 rfl _ hh) (by exact Rd.owned 12 rfl _ hh))) rfl (fun _ _ => ?_)
                           refine G.v (rv_not rfl) rfl ?_
                           refine G.done ?_
                           refine G.thenN ?_
                           refine G.cond rfl (fun hc => ?_) (fun hc => ?_)
                           · try exact Bool.noConfusion hc
                             all_goals
                              try replace hc := of_decide_eq_true hc
                              try (exfalso; contradiction)
                              all_goals
                               refine G.seq ?_
                               refine G.region ?_
                               refine G.v (rv_assign rfl) rfl ?_
                               refine G.done ?_
                               refine G.thenN ?_
                               refine G.ret ?_
                               refine G.thenR ?_
                               (exfalso; simp_all; done)
                           · try exact Bool.noConfusion hc
                             all_goals
                              try replace hc := of_decide_eq_false hc
                              try (exfalso; contradiction)
                              all_goals
                               refine G.skip ?_
                               refine G.thenN ?_
                               refine G.seq ?_
                               refine G.region ?_
                               refine G.v (rv_assign rfl) rfl ?_
                               refine G.done ?_
                               refine G.thenN ?_
                               refine G.seq ?_
                               refine G.region ?_
                               refine G.v (rv_move rfl) rfl ?_
                               refine G.v (rv_move rfl) rfl ?_
                               refine G.op (og_callV rfl rfl (fun w hh => heldIntS_marked (l := us) w (by exact Rd.owned 4 rfl _ hh) (by omega) (by omega))) rfl (fun _ _ => ?_)
                               refine G.v (rv_assign rfl) rfl ?_
                               refine G.done ?_
                               refine G.thenN ?_
                               refine G.seq ?_
                               refine G.seq ?_
                               refine G.region ?_
                               refine G.v (rv_move rfl) rfl ?_
                               refine G.v (rv_lss rfl rfl) rfl ?_
                               refine G.done ?_
                               refine G.thenN ?_
                               refine G.cond rfl (fun hc => ?_) (fun hc => ?_)
                               · try exact Bool.noConfusion hc
                                 all_goals
                                  try replace hc := of_decide_eq_true hc
                                  try (exfalso; contradiction)
                                  all_goals
                                   refine G.seq ?_
                                   refine G.region ?_
                                   refine G.v (rv_assign rfl) rfl ?_
                                   refine G.done ?_
                                   refine G.thenN ?_
                                   refine G.ret ?_
                                   refine G.thenR ?_
                                   exact G.retFV rfl rfl rfl
                               · try exact Bool.noConfusion hc
                                 all_goals
                                  try replace hc := of_decide_eq_false hc
                                  try (exfalso; contradiction)
                                  all_goals
                                   refine G.skip ?_
                                   refine G.thenN ?_
                                   refine G.seq ?_
                                   refine G.seq ?_
                                   refine G.region ?_
                                   refine G.v (rv_move rfl) rfl ?_
                                   refine G.v (rv_move rfl) rfl ?_
                                   refine G.v (rv_neq rfl rfl) rfl ?_
                                   refine G.done ?_
                                   refine G.thenN ?_
                                   refine G.cond rfl (fun hc => ?_) (fun hc => ?_)
                                   · try exact Bool.noConfusion hc
                                     all_goals
                                      try replace hc := of_decide_eq_true hc
                                      try (exfalso; contradiction)
                                      all_goals
                                       refine G.seq ?_
                                       refine G.region ?_
                                       refine G.v (rv_assign rfl) rfl ?_
                                       refine G.done ?_
                                       refine G.thenN ?_
                                       refine G.ret ?_
                                       refine G.thenR ?_
                                       exact G.retFV rfl rfl rfl
                                   · try exact Bool.noConfusion hc
                                     all_goals
                                      try replace hc := of_decide_eq_false hc
                                      try (exfalso; contradiction)
                                      all_goals
                                       refine G.skip ?_
                                       refine G.thenN ?_
                                       refine G.seq ?_
                                       refine G.region ?_
                                       refine G.v (rv_assign rfl) rfl ?_
                                       refine G.done ?_
                                       refine G.thenN ?_
                                       refine G.ret ?_
                                       exact G.retFV rfl rfl rfl
end Go.Proofs.YtibkggjbkgdnkaaGreat
