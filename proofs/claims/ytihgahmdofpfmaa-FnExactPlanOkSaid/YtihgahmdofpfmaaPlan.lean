/-
  Plans that are right.
-/
import Derived.Test.YtihgahmdofpfmaaGeo2
import Derived.Test.YtihgahmdofpfmaaTables
namespace Go.Proofs.Ytihgahmdofpfmaa
open Go.RowKit
attribute [local irreducible] Go.wpList Go.Code.wp Go.Exit.then Go.Exit.inBlock Go.bodyPost Go.Calls pE pB G RunsV FnV Fn FnM
set_option maxRecDepth 100000

/-- The numbers of a list go up, and are in bounds: at one place. -/
def upAt (l : List Int) (i : Nat) : Bool := match l[i]? with
  | none => true
  | some u => inB u 0 999 && (match i with | 0 => true | j + 1 => match l[j]? with | none => true | some v => decide (v < u))
def upM (l : List Int) : Bool := decide (l.length ≤ 100) && (List.range l.length).all (upAt l)
theorem range_next {f : Nat → Bool} {k : Nat} (h : (List.range k).all f = true) (hk : f k = true) : (List.range (k + 1)).all f = true := by
  rw [List.range_succ, List.all_append, h]; simp [hk]
theorem range_no {f : Nat → Bool} {k n : Nat} (h : k < n) (hk : f k = false) : (List.range n).all f = false := by
  rw [Bool.eq_false_iff]; intro hh; rw [List.all_eq_true] at hh; have := hh k (List.mem_range.2 h); rw [hk] at this; cases this
theorem upAt_eq {l : List Int} {k : Nat} {u v : Int} (hu : l[k]? = some u) (hv : 0 < k → l[k - 1]? = some v) : upAt l k = (inB u 0 999 && (decide (k = 0) || decide (v < u))) := by
  cases k with
  | zero => simp [upAt, hu]
  | succ j => have := hv (by omega); simp only [Nat.add_sub_cancel] at this; simp [upAt, hu, this]
theorem upM_end {l : List Int} {k : Nat} (h : (List.range k).all (upAt l) = true) (h1 : k ≤ l.length) (h2 : ¬ k < l.length) : decide (((l.map icell).length : Int) ≤ 100) = upM l := by
  have : k = l.length := by omega
  subst this
  rw [upM, h, Bool.and_true]; exact decide_eq_decide.2 (by rw [List.length_map]; omega)
theorem prev_get {l : List Int} {k : Nat} (h : k < l.length) : ∃ c, 0 < k → l[k - 1]? = some c := ⟨(l[k - 1]?).getD 0, fun hk => by rw [List.getElem?_eq_getElem (by omega)]; rfl⟩
theorem upM_len {l : List Int} (h : 100 < l.length) : upM l = false := by rw [upM, decide_eq_false (by omega), Bool.false_and]
theorem upM_elt {l : List Int} {k : Nat} (h : k < l.length) (hk : upAt l k = false) : upM l = false := by rw [upM, range_no h hk, Bool.and_false]
theorem upM_yes {l : List Int} {k : Nat} (h : (List.range k).all (upAt l) = true) (h1 : k ≤ l.length) (h2 : ¬ k < l.length) (h3 : l.length ≤ 100) : upM l = true := by rw [← upM_end h h1 h2, List.length_map, decide_eq_true (by omega)]
theorem and_no {p q : Bool} (h : q = false) : false = (p && q) := by rw [h, Bool.and_false]
theorem and_yes {p q r : Bool} (h1 : (!p) = false) (h2 : (!q) = false) (h : r = true) : true = (p && q && r) := by simp_all
theorem and_no1 {p q r : Bool} (h1 : (!p) = true) : false = (p && q && r) := by simp_all
theorem and_no2 {p q r : Bool} (h1 : (!q) = true) : false = (p && q && r) := by simp_all
theorem unitsRight_any {v : Value} {l : List Int} (w : World) (h : Rd w v 1 (l.map icell)) : FnV Try.prog 90 [v] w (.bool (upM l)) := by
  have hle := h.le_map
  have hln : (l.map icell).length = l.length := by simp
  refine FnV.of (n := 32) Try.func90 rfl rfl ?_
  refine G.seq ?_
  refine G.region ?_
  refine G.v (rv_assign rfl) rfl ?_
  refine G.done ?_
  refine G.thenN ?_
  refine G.seq ?_
  refine G.seq ?_
  refine G.region ?_
  refine G.v (rv_move rfl) rfl ?_
  refine G.v (rv_len rfl (by first | exact Rd.stays (by assumption))) rfl ?_
  refine G.v (rv_move rfl) rfl ?_
  refine G.done ?_
  refine G.thenN ?_
  refine G.block ?_
  -- loop 0: turned [7], kept [0, 5, 6]
  refine G.loopK (ι := Nat) (ks := [0, 5, 6]) (fun k => [(7, .int .i64 k)]) (fun _ => []) (fun k => k ≤ l.length ∧ (List.range k).all (upAt l) = true) (fun k => l.length - k) 0 (.cons rfl (.cons rfl (.cons rfl (.nil)))) rfl ?_ ?_ ?_
  · exact ⟨Nat.zero_le _, rfl⟩
  · exact ⟨rfl, trivial⟩
  rintro k ⟨hk, ht⟩
  by_cases hlt : k < l.length
  case' pos => (obtain ⟨b, hb⟩ := get_of_lt hlt; have he := get_map hb icell; obtain ⟨c, hb2⟩ := prev_get hlt; have he2 : 0 < k → (l.map icell)[k - 1]? = some (icell c) := fun h => get_map (hb2 h) icell; have hup := upAt_eq hb hb2)
  all_goals
   refine G.seq ?_
   refine G.region ?_
   refine G.v (rv_lss rfl rfl) rfl ?_
   refine G.done ?_
   refine G.thenN ?_
   refine G.seq ?_
   refine G.cond rfl (fun hc => ?_) (fun hc => ?_)
   · try exact Bool.noConfusion hc
     all_goals
      try replace hc := of_decide_eq_true hc
      try (exfalso; first | contradiction | omega)
      all_goals
       refine G.skip ?_
       refine G.thenN ?_
       refine G.seq ?_
       refine G.block ?_
       refine G.seq ?_
       refine G.region ?_
       refine G.v (rv_move rfl) rfl ?_
       (first | refine G.v (rv_indexH (k := k - 1) rfl rfl (Rd.stays h) (by have := of_decide_eq_true hg; omega) (he2 (by have := of_decide_eq_true hg; omega))) rfl ?_ | refine G.v (rv_indexH rfl rfl (by first | exact Rd.stays (by assumption)) rfl (by first | assumption | exact he2 (by have := of_decide_eq_true hg; omega))) rfl ?_ | refine G.v (rv_index rfl rfl (by first | exact Rd.stays (by assumption)) rfl (by assumption)) rfl ?_)
       refine G.v (rv_loadE rfl (by first | exact Rd.stays (by assumption)) (by first | assumption | exact he2 (by have := of_decide_eq_true hg; omega)) rfl) rfl ?_
       refine G.v (rv_assign rfl) rfl ?_
       refine G.v (rv_assign rfl) rfl ?_
       refine G.done ?_
       refine G.thenN ?_
       refine G.seq ?_
       refine G.region ?_
       refine G.v (rv_move rfl) rfl ?_
       refine G.op (og_callV rfl rfl (fun w _ => in_any _ _ _ w)) rfl (fun _ _ => ?_)
       refine G.v (rv_not rfl) rfl ?_
       refine G.v (rv_move rfl) rfl ?_
       all_goals (((with_reducible refine G.gP rfl rfl (fun hg => ?_) (fun hg => ?_)) <;> (try exact Bool.noConfusion hg) <;> (first | (refine G.gY rfl rfl ?_; refine G.v (rv_move rfl) rfl ?_) | refine G.gN rfl rfl rfl ?_ | refine G.gU rfl rfl rfl ?_)))
       all_goals ((first | (refine G.gY rfl rfl ?_; refine G.v (rv_gtr rfl rfl) rfl ?_) | refine G.gN rfl rfl rfl ?_ | refine G.gU rfl rfl rfl ?_))
       all_goals ((first | (refine G.gY rfl rfl ?_; refine G.v (rv_move rfl) rfl ?_) | refine G.gN rfl rfl rfl ?_ | refine G.gU rfl rfl rfl ?_))
       all_goals ((first | refine G.gU rfl rfl rfl ?_ | ((with_reducible refine G.gP rfl rfl (fun hg => ?_) (fun hg => ?_)) <;> (try exact Bool.noConfusion hg) <;> (first | (refine G.gY rfl rfl ?_; refine G.v (rv_move rfl) rfl ?_) | refine G.gN rfl rfl rfl ?_ | refine G.gU rfl rfl rfl ?_))))
       all_goals ((first | (refine G.gY rfl rfl ?_; refine G.v (rv_move rfl) rfl ?_) | refine G.gN rfl rfl rfl ?_ | refine G.gU rfl rfl rfl ?_))
       all_goals ((first | (refine G.gY rfl rfl ?_; (first | refine G.v (rv_decr rfl rfl (by omega) (by omega)) rfl ?_ | refine G.v (rv_subB rfl rfl (by omega) (by omega)) rfl ?_)) | refine G.gN rfl rfl rfl ?_ | refine G.gU rfl rfl rfl ?_))
       all_goals ((first | (refine G.gY rfl rfl ?_; (first | refine G.v (rv_indexH (k := k - 1) rfl rfl (Rd.stays h) (by have := of_decide_eq_true hg; omega) (he2 (by have := of_decide_eq_true hg; omega))) rfl ?_ | refine G.v (rv_indexH rfl rfl (by first | exact Rd.stays (by assumption)) rfl (by first | assumption | exact he2 (by have := of_decide_eq_true hg; omega))) rfl ?_ | refine G.v (rv_index rfl rfl (by first | exact Rd.stays (by assumption)) rfl (by assumption)) rfl ?_)) | refine G.gN rfl rfl rfl ?_ | refine G.gU rfl rfl rfl ?_))
       all_goals ((first | (refine G.gY rfl rfl ?_; refine G.v (rv_loadE rfl (by first | exact Rd.stays (by assumption)) (by first | assumption | exact he2 (by have := of_decide_eq_true hg; omega)) rfl) rfl ?_) | refine G.gN rfl rfl rfl ?_ | refine G.gU rfl rfl rfl ?_))
       all_goals ((first | (refine G.gY rfl rfl ?_; refine G.v (rv_move rfl) rfl ?_) | refine G.gN rfl rfl rfl ?_ | refine G.gU rfl rfl rfl ?_))
       all_goals ((first | (refine G.gY rfl rfl ?_; refine G.v (rv_geq rfl rfl) rfl ?_) | refine G.gN rfl rfl rfl ?_ | refine G.gU rfl rfl rfl ?_))
       all_goals ((first | (refine G.gY rfl rfl ?_; (first | refine G.v (rv_pickT rfl rfl) rfl ?_ | refine G.v (rv_pickF rfl rfl) rfl ?_)) | refine G.gN rfl rfl rfl ?_ | refine G.gU rfl rfl rfl ?_))
       all_goals ((first | refine G.v (rv_pickT rfl rfl) rfl ?_ | refine G.v (rv_pickF rfl rfl) rfl ?_))
       all_goals
        refine G.done ?_
        refine G.thenN ?_
        refine G.cond rfl (fun hc => ?_) (fun hc => ?_)
        · try exact Bool.noConfusion hc
          all_goals
           try replace hc := of_decide_eq_true hc
           try (exfalso; first | contradiction | omega)
           all_goals
            refine G.seq ?_
            refine G.region ?_
            refine G.v (rv_assign rfl) rfl ?_
            refine G.done ?_
            refine G.thenN ?_
            refine G.ret ?_
            refine G.inR ?_
            refine G.thenR ?_
            refine G.thenR ?_
            refine G.inR ?_
            refine G.thenR ?_
            first | exact G.retFV rfl rfl (congrArg Value.bool (by rw [upM, range_no hlt (by rw [hup]; (simp_all <;> omega)), Bool.and_false])) | exact G.retFV rfl rfl (congrArg Value.bool (upM_end ht hk (by omega)))
        · try exact Bool.noConfusion hc
          all_goals
           try replace hc := of_decide_eq_false hc
           try (exfalso; first | contradiction | omega)
           all_goals
            refine G.skip ?_
            refine G.inN ?_
            refine G.thenN ?_
            refine G.region ?_
            (first | refine G.v (rv_incr rfl rfl (by omega)) rfl ?_ | refine G.v (rv_addB rfl rfl (by omega) (by omega)) rfl ?_)
            refine G.v (rv_move rfl) rfl ?_
            refine G.done ?_
            first | refine G.backK (k + 1) 0 rfl (.cons rfl (.cons rfl (.cons rfl (.nil)))) ?_ ?_ ?_ | refine G.backK (k + 1) 1 rfl (.cons rfl (.cons rfl (.cons rfl (.nil)))) ?_ ?_ ?_ | refine G.backK (k + 1) 2 rfl (.cons rfl (.cons rfl (.cons rfl (.nil)))) ?_ ?_ ?_ | refine G.backK (k + 1) 3 rfl (.cons rfl (.cons rfl (.cons rfl (.nil)))) ?_ ?_ ?_
            · exact ⟨rfl, trivial⟩
            · exact ⟨hlt, range_next ht (by rw [hup]; (simp_all <;> omega))⟩
            · omega
   · try exact Bool.noConfusion hc
     all_goals
      try replace hc := of_decide_eq_false hc
      try (exfalso; first | contradiction | omega)
      all_goals
       refine G.exit ?_
       refine G.thenX ?_
       refine G.thenX ?_
       refine G.inX ?_
       refine G.thenN ?_
       refine G.seq ?_
       refine G.region ?_
       refine G.v (rv_move rfl) rfl ?_
       refine G.v (rv_len rfl (by first | exact Rd.stays (by assumption))) rfl ?_
       refine G.v (rv_leq rfl rfl) rfl ?_
       refine G.v (rv_assign rfl) rfl ?_
       refine G.done ?_
       refine G.thenN ?_
       refine G.ret ?_
       first | exact G.retFV rfl rfl (congrArg Value.bool (by rw [upM, range_no hlt (by rw [hup]; (simp_all <;> omega)), Bool.and_false])) | exact G.retFV rfl rfl (congrArg Value.bool (upM_end ht hk (by omega)))
theorem l13Carton_any (a : CartonM × Value) (w : World) (h : Rd w a.2 1 (a.1.l.map icell)) : FnV Try.prog 88 [.agg (CartonM.cells a).toArray] w (.bool (inB a.1.t 0 999 && inB a.1.g 0 3 && upM a.1.l)) := by
  have hle := h.le_map
  have hln : (a.1.l.map icell).length = a.1.l.length := by simp
  refine FnV.of (n := 52) Try.func88 rfl rfl ?_
  refine G.seq ?_
  refine G.region ?_
  refine G.op (og_box rfl rfl) rfl (fun b _ => ?_)
  refine G.v (rv_assign rfl) rfl ?_
  refine G.done ?_
  refine G.thenN ?_
  refine G.seq ?_
  refine G.seq ?_
  refine G.region ?_
  (first | refine G.v (rv_field rfl) rfl ?_ | refine G.v (rv_fieldE rfl) rfl ?_)
  (first | refine G.v (rv_load1 0 rfl rfl rfl) rfl ?_ | refine G.v (rv_loadE rfl (by first | exact Rd.stays (by assumption) | exact Rd.owned 0 rfl) (by first | assumption | exact he2 (by have := of_decide_eq_true hg; omega)) rfl) rfl ?_)
  refine G.op (og_callV rfl rfl (fun w _ => l2Id_any _ w)) rfl (fun _ _ => ?_)
  refine G.v (rv_not rfl) rfl ?_
  refine G.v (rv_move rfl) rfl ?_
  all_goals (((with_reducible refine G.gP rfl rfl (fun hg => ?_) (fun hg => ?_)) <;> (try exact Bool.noConfusion hg) <;> (first | (refine G.gY rfl rfl ?_; (first | refine G.v (rv_field rfl) rfl ?_ | refine G.v (rv_fieldE rfl) rfl ?_)) | refine G.gN rfl rfl rfl ?_ | refine G.gU rfl rfl rfl ?_)))
  all_goals ((first | (refine G.gY rfl rfl ?_; (first | refine G.v (rv_load1 0 rfl rfl rfl) rfl ?_ | refine G.v (rv_loadE rfl (by first | exact Rd.stays (by assumption) | exact Rd.owned 0 rfl) (by first | assumption | exact he2 (by have := of_decide_eq_true hg; omega)) rfl) rfl ?_)) | refine G.gN rfl rfl rfl ?_ | refine G.gU rfl rfl rfl ?_))
  all_goals ((first | (refine G.gY rfl rfl ?_; refine G.op (og_callV rfl rfl (fun w _ => l1In_any _ _ _ w)) rfl (fun _ _ => ?_)) | refine G.gN rfl rfl rfl ?_ | refine G.gU rfl rfl rfl ?_))
  all_goals ((first | (refine G.gY rfl rfl ?_; refine G.v (rv_not rfl) rfl ?_) | refine G.gN rfl rfl rfl ?_ | refine G.gU rfl rfl rfl ?_))
  all_goals ((first | refine G.v (rv_pickT rfl rfl) rfl ?_ | refine G.v (rv_pickF rfl rfl) rfl ?_))
  all_goals (refine G.v (rv_move rfl) rfl ?_)
  all_goals (((with_reducible refine G.gP rfl rfl (fun hg => ?_) (fun hg => ?_)) <;> (try exact Bool.noConfusion hg) <;> (first | (refine G.gY rfl rfl ?_; (first | refine G.v (rv_field rfl) rfl ?_ | refine G.v (rv_fieldE rfl) rfl ?_)) | refine G.gN rfl rfl rfl ?_ | refine G.gU rfl rfl rfl ?_)))
  all_goals ((first | (refine G.gY rfl rfl ?_; (first | refine G.v (rv_load1 0 rfl rfl rfl) rfl ?_ | refine G.v (rv_loadE rfl (by first | exact Rd.stays (by assumption) | exact Rd.owned 0 rfl) (by first | assumption | exact he2 (by have := of_decide_eq_true hg; omega)) rfl) rfl ?_)) | refine G.gN rfl rfl rfl ?_ | refine G.gU rfl rfl rfl ?_))
  all_goals ((first | (refine G.gY rfl rfl ?_; refine G.v (rv_len rfl (by first | exact Rd.stays (by assumption) | exact Rd.owned 0 rfl)) rfl ?_) | refine G.gN rfl rfl rfl ?_ | refine G.gU rfl rfl rfl ?_))
  all_goals ((first | (refine G.gY rfl rfl ?_; refine G.v (rv_gtr rfl rfl) rfl ?_) | refine G.gN rfl rfl rfl ?_ | refine G.gU rfl rfl rfl ?_))
  all_goals ((first | refine G.v (rv_pickT rfl rfl) rfl ?_ | refine G.v (rv_pickF rfl rfl) rfl ?_))
  all_goals
   refine G.done ?_
   refine G.thenN ?_
   refine G.cond rfl (fun hc => ?_) (fun hc => ?_)
   · try exact Bool.noConfusion hc
     all_goals
      try replace hc := of_decide_eq_true hc
      try (exfalso; first | contradiction | omega)
      all_goals
       refine G.seq ?_
       refine G.region ?_
       refine G.v (rv_assign rfl) rfl ?_
       refine G.done ?_
       refine G.thenN ?_
       refine G.ret ?_
       refine G.thenR ?_
       first | exact G.retFV rfl rfl (congrArg Value.bool (and_no1 (by assumption))) | exact G.retFV rfl rfl (congrArg Value.bool (and_no2 (by assumption))) | exact G.retFV rfl rfl (congrArg Value.bool (and_no (upM_len (by omega)))) | exact G.retFV rfl rfl (congrArg Value.bool (and_no (upM_elt hlt (by rw [hup]; (simp_all <;> omega))))) | exact G.retFV rfl rfl (congrArg Value.bool (and_yes (by assumption) (by assumption) (upM_yes ht hk hlt (by omega))))
   · try exact Bool.noConfusion hc
     all_goals
      try replace hc := of_decide_eq_false hc
      try (exfalso; first | contradiction | omega)
      all_goals
       refine G.skip ?_
       refine G.thenN ?_
       refine G.seq ?_
       refine G.seq ?_
       refine G.region ?_
       refine G.v (rv_assign rfl) rfl ?_
       refine G.done ?_
       refine G.thenN ?_
       refine G.block ?_
       -- loop 0: turned [3], kept [1]
       refine G.loopK (ι := Nat) (ks := [1]) (fun k => [(3, .int .i64 k)]) (fun _ => []) (fun k => k ≤ a.1.l.length ∧ (List.range k).all (upAt a.1.l) = true) (fun k => a.1.l.length - k) 0 (.cons rfl (.nil)) rfl ?_ ?_ ?_
       · exact ⟨Nat.zero_le _, rfl⟩
       · exact ⟨rfl, trivial⟩
       rintro k ⟨hk, ht⟩
       by_cases hlt : k < a.1.l.length
       case' pos => (obtain ⟨b, hb⟩ := get_of_lt hlt; have he := get_map hb icell; obtain ⟨c, hb2⟩ := prev_get hlt; have he2 : 0 < k → (a.1.l.map icell)[k - 1]? = some (icell c) := fun h => get_map (hb2 h) icell; have hup := upAt_eq hb hb2)
       all_goals
        refine G.seq ?_
        refine G.seq ?_
        refine G.region ?_
        refine G.v (rv_move rfl) rfl ?_
        (first | refine G.v (rv_field rfl) rfl ?_ | refine G.v (rv_fieldE rfl) rfl ?_)
        (first | refine G.v (rv_load1 0 rfl rfl rfl) rfl ?_ | refine G.v (rv_loadE rfl (by first | exact Rd.stays (by assumption) | exact Rd.owned 0 rfl) (by first | assumption | exact he2 (by have := of_decide_eq_true hg; omega)) rfl) rfl ?_)
        refine G.v (rv_len rfl (by first | exact Rd.stays (by assumption) | exact Rd.owned 0 rfl)) rfl ?_
        refine G.v (rv_lss rfl rfl) rfl ?_
        refine G.done ?_
        refine G.thenN ?_
        refine G.cond rfl (fun hc => ?_) (fun hc => ?_)
        · try exact Bool.noConfusion hc
          all_goals
           try replace hc := of_decide_eq_true hc
           try (exfalso; first | contradiction | omega)
           all_goals
            refine G.skip ?_
            refine G.thenN ?_
            refine G.seq ?_
            refine G.block ?_
            refine G.seq ?_
            refine G.drawL [] ?_
            (first | refine GE.q 0 rfl (by kernel_rfl) rfl (qg_runs (rv_field rfl)) rfl ?_ | refine GE.q 0 rfl (by kernel_rfl) rfl (qg_runs (rv_fieldE rfl)) rfl ?_)
            (first | refine GE.q 1 rfl (by kernel_rfl) rfl (qg_runs (rv_load1 0 rfl rfl rfl)) rfl ?_ | refine GE.q 1 rfl (by kernel_rfl) rfl (qg_runs (rv_loadE rfl (by first | exact Rd.stays (by assumption) | exact Rd.owned 0 rfl) (by first | assumption | exact he2 (by have := of_decide_eq_true hg; omega)) rfl)) rfl ?_)
            refine GE.q 2 rfl (by kernel_rfl) rfl (qg_runs (rv_move rfl)) rfl ?_
            (first | refine GE.q 3 rfl (by kernel_rfl) rfl (qg_runs (rv_indexH (k := k - 1) rfl rfl (Rd.stays h) (by have := of_decide_eq_true hg; omega) (he2 (by have := of_decide_eq_true hg; omega)))) rfl ?_ | refine GE.q 3 rfl (by kernel_rfl) rfl (qg_runs (rv_indexH rfl rfl (by first | exact Rd.stays (by assumption) | exact Rd.owned 0 rfl) rfl (by first | assumption | exact he2 (by have := of_decide_eq_true hg; omega)))) rfl ?_ | refine GE.q 3 rfl (by kernel_rfl) rfl (qg_runs (rv_index rfl rfl (by first | exact Rd.stays (by assumption) | exact Rd.owned 0 rfl) rfl (by assumption))) rfl ?_)
            (first | refine GE.q 4 rfl (by kernel_rfl) rfl (qg_runs (rv_load1 0 rfl rfl rfl)) rfl ?_ | refine GE.q 4 rfl (by kernel_rfl) rfl (qg_runs (rv_loadE rfl (by first | exact Rd.stays (by assumption) | exact Rd.owned 0 rfl) (by first | assumption | exact he2 (by have := of_decide_eq_true hg; omega)) rfl)) rfl ?_)
            refine GE.q 5 rfl (by kernel_rfl) rfl (qg_call rfl rfl (fun w _ => l1In_any _ _ _ w)) rfl ?_
            refine GE.q 6 rfl (by kernel_rfl) rfl (qg_runs (rv_not rfl)) rfl ?_
            refine GE.q 7 rfl (by kernel_rfl) rfl (qg_runs (rv_move rfl)) rfl ?_
            all_goals (((with_reducible refine GE.part (t := 34) rfl (fun hg => ?_) (fun hg => ?_)) <;> (try exact Bool.noConfusion hg) <;> (first | refine GE.q 8 rfl (by kernel_rfl) rfl (qg_runs (rv_move rfl)) rfl ?_ | refine GE.qn 8 rfl (by kernel_rfl) rfl rfl ?_)))
            all_goals ((first | refine GE.q 9 rfl (by kernel_rfl) rfl (qg_runs (rv_gtr rfl rfl)) rfl ?_ | refine GE.qn 9 rfl (by kernel_rfl) rfl rfl ?_))
            all_goals ((first | refine GE.q 10 rfl (by kernel_rfl) rfl (qg_runs (rv_move rfl)) rfl ?_ | refine GE.qn 10 rfl (by kernel_rfl) rfl rfl ?_))
            all_goals ((first | refine GE.qn 11 rfl (by kernel_rfl) rfl rfl ?_ | ((with_reducible refine GE.part (t := 37) rfl (fun hg => ?_) (fun hg => ?_)) <;> (try exact Bool.noConfusion hg) <;> (first | (first | refine GE.q 11 rfl (by kernel_rfl) rfl (qg_runs (rv_field rfl)) rfl ?_ | refine GE.q 11 rfl (by kernel_rfl) rfl (qg_runs (rv_fieldE rfl)) rfl ?_) | refine GE.qn 11 rfl (by kernel_rfl) rfl rfl ?_))))
            all_goals ((first | (first | refine GE.q 12 rfl (by kernel_rfl) rfl (qg_runs (rv_load1 0 rfl rfl rfl)) rfl ?_ | refine GE.q 12 rfl (by kernel_rfl) rfl (qg_runs (rv_loadE rfl (by first | exact Rd.stays (by assumption) | exact Rd.owned 0 rfl) (by first | assumption | exact he2 (by have := of_decide_eq_true hg; omega)) rfl)) rfl ?_) | refine GE.qn 12 rfl (by kernel_rfl) rfl rfl ?_))
            all_goals ((first | refine GE.q 13 rfl (by kernel_rfl) rfl (qg_runs (rv_move rfl)) rfl ?_ | refine GE.qn 13 rfl (by kernel_rfl) rfl rfl ?_))
            all_goals ((first | (first | refine GE.q 14 rfl (by kernel_rfl) rfl (qg_runs (rv_indexH (k := k - 1) rfl rfl (Rd.stays h) (by have := of_decide_eq_true hg; omega) (he2 (by have := of_decide_eq_true hg; omega)))) rfl ?_ | refine GE.q 14 rfl (by kernel_rfl) rfl (qg_runs (rv_indexH rfl rfl (by first | exact Rd.stays (by assumption) | exact Rd.owned 0 rfl) rfl (by first | assumption | exact he2 (by have := of_decide_eq_true hg; omega)))) rfl ?_ | refine GE.q 14 rfl (by kernel_rfl) rfl (qg_runs (rv_index rfl rfl (by first | exact Rd.stays (by assumption) | exact Rd.owned 0 rfl) rfl (by assumption))) rfl ?_) | refine GE.qn 14 rfl (by kernel_rfl) rfl rfl ?_))
            all_goals ((first | (first | refine GE.q 15 rfl (by kernel_rfl) rfl (qg_runs (rv_load1 0 rfl rfl rfl)) rfl ?_ | refine GE.q 15 rfl (by kernel_rfl) rfl (qg_runs (rv_loadE rfl (by first | exact Rd.stays (by assumption) | exact Rd.owned 0 rfl) (by first | assumption | exact he2 (by have := of_decide_eq_true hg; omega)) rfl)) rfl ?_) | refine GE.qn 15 rfl (by kernel_rfl) rfl rfl ?_))
            all_goals ((first | (first | refine GE.q 16 rfl (by kernel_rfl) rfl (qg_runs (rv_field rfl)) rfl ?_ | refine GE.q 16 rfl (by kernel_rfl) rfl (qg_runs (rv_fieldE rfl)) rfl ?_) | refine GE.qn 16 rfl (by kernel_rfl) rfl rfl ?_))
            all_goals ((first | (first | refine GE.q 17 rfl (by kernel_rfl) rfl (qg_runs (rv_load1 0 rfl rfl rfl)) rfl ?_ | refine GE.q 17 rfl (by kernel_rfl) rfl (qg_runs (rv_loadE rfl (by first | exact Rd.stays (by assumption) | exact Rd.owned 0 rfl) (by first | assumption | exact he2 (by have := of_decide_eq_true hg; omega)) rfl)) rfl ?_) | refine GE.qn 17 rfl (by kernel_rfl) rfl rfl ?_))
            all_goals ((first | refine GE.q 18 rfl (by kernel_rfl) rfl (qg_runs (rv_move rfl)) rfl ?_ | refine GE.qn 18 rfl (by kernel_rfl) rfl rfl ?_))
            all_goals ((first | (first | refine GE.q 19 rfl (by kernel_rfl) rfl (qg_runs (rv_decr rfl rfl (by omega) (by omega))) rfl ?_ | refine GE.q 19 rfl (by kernel_rfl) rfl (qg_runs (rv_subB rfl rfl (by omega) (by omega))) rfl ?_) | refine GE.qn 19 rfl (by kernel_rfl) rfl rfl ?_))
            all_goals ((first | (first | refine GE.q 20 rfl (by kernel_rfl) rfl (qg_runs (rv_indexH (k := k - 1) rfl rfl (Rd.stays h) (by have := of_decide_eq_true hg; omega) (he2 (by have := of_decide_eq_true hg; omega)))) rfl ?_ | refine GE.q 20 rfl (by kernel_rfl) rfl (qg_runs (rv_indexH rfl rfl (by first | exact Rd.stays (by assumption) | exact Rd.owned 0 rfl) rfl (by first | assumption | exact he2 (by have := of_decide_eq_true hg; omega)))) rfl ?_ | refine GE.q 20 rfl (by kernel_rfl) rfl (qg_runs (rv_index rfl rfl (by first | exact Rd.stays (by assumption) | exact Rd.owned 0 rfl) rfl (by assumption))) rfl ?_) | refine GE.qn 20 rfl (by kernel_rfl) rfl rfl ?_))
            all_goals ((first | (first | refine GE.q 21 rfl (by kernel_rfl) rfl (qg_runs (rv_load1 0 rfl rfl rfl)) rfl ?_ | refine GE.q 21 rfl (by kernel_rfl) rfl (qg_runs (rv_loadE rfl (by first | exact Rd.stays (by assumption) | exact Rd.owned 0 rfl) (by first | assumption | exact he2 (by have := of_decide_eq_true hg; omega)) rfl)) rfl ?_) | refine GE.qn 21 rfl (by kernel_rfl) rfl rfl ?_))
            all_goals ((first | refine GE.q 22 rfl (by kernel_rfl) rfl (qg_runs (rv_leq rfl rfl)) rfl ?_ | refine GE.qn 22 rfl (by kernel_rfl) rfl rfl ?_))
            all_goals ((first | (first | refine GE.q 23 rfl (by kernel_rfl) rfl (qg_runs (rv_pickT rfl rfl)) rfl ?_ | refine GE.q 23 rfl (by kernel_rfl) rfl (qg_runs (rv_pickF rfl rfl)) rfl ?_) | refine GE.qn 23 rfl (by kernel_rfl) rfl rfl ?_))
            all_goals ((first | refine GE.q 24 rfl (by kernel_rfl) rfl (qg_runs (rv_pickT rfl rfl)) rfl ?_ | refine GE.q 24 rfl (by kernel_rfl) rfl (qg_runs (rv_pickF rfl rfl)) rfl ?_))
            all_goals
             refine GE.done (by kernel_rfl) ?_
             refine G.thenN ?_
             refine G.cond rfl (fun hc => ?_) (fun hc => ?_)
             · try exact Bool.noConfusion hc
               all_goals
                try replace hc := of_decide_eq_true hc
                try (exfalso; first | contradiction | omega)
                all_goals
                 refine G.seq ?_
                 refine G.region ?_
                 refine G.v (rv_assign rfl) rfl ?_
                 refine G.done ?_
                 refine G.thenN ?_
                 refine G.ret ?_
                 refine G.inR ?_
                 refine G.thenR ?_
                 refine G.thenR ?_
                 refine G.inR ?_
                 refine G.thenR ?_
                 first | exact G.retFV rfl rfl (congrArg Value.bool (and_no1 (by assumption))) | exact G.retFV rfl rfl (congrArg Value.bool (and_no2 (by assumption))) | exact G.retFV rfl rfl (congrArg Value.bool (and_no (upM_len (by omega)))) | exact G.retFV rfl rfl (congrArg Value.bool (and_no (upM_elt hlt (by rw [hup]; (simp_all <;> omega))))) | exact G.retFV rfl rfl (congrArg Value.bool (and_yes (by assumption) (by assumption) (upM_yes ht hk hlt (by omega))))
             · try exact Bool.noConfusion hc
               all_goals
                try replace hc := of_decide_eq_false hc
                try (exfalso; first | contradiction | omega)
                all_goals
                 refine G.skip ?_
                 refine G.inN ?_
                 refine G.thenN ?_
                 refine G.region ?_
                 refine G.v (rv_move rfl) rfl ?_
                 (first | refine G.v (rv_incr rfl rfl (by omega)) rfl ?_ | refine G.v (rv_addB rfl rfl (by omega) (by omega)) rfl ?_)
                 refine G.v (rv_assign rfl) rfl ?_
                 refine G.done ?_
                 first | refine G.backK (k + 1) 0 rfl (.cons rfl (.nil)) ?_ ?_ ?_ | refine G.backK (k + 1) 1 rfl (.cons rfl (.nil)) ?_ ?_ ?_ | refine G.backK (k + 1) 2 rfl (.cons rfl (.nil)) ?_ ?_ ?_ | refine G.backK (k + 1) 3 rfl (.cons rfl (.nil)) ?_ ?_ ?_
                 · exact ⟨rfl, trivial⟩
                 · exact ⟨hlt, range_next ht (by rw [hup]; (simp_all <;> omega))⟩
                 · omega
        · try exact Bool.noConfusion hc
          all_goals
           try replace hc := of_decide_eq_false hc
           try (exfalso; first | contradiction | omega)
           all_goals
            refine G.exit ?_
            refine G.thenX ?_
            refine G.thenX ?_
            refine G.inX ?_
            refine G.thenN ?_
            refine G.seq ?_
            refine G.region ?_
            refine G.v (rv_assign rfl) rfl ?_
            refine G.done ?_
            refine G.thenN ?_
            refine G.ret ?_
            first | exact G.retFV rfl rfl (congrArg Value.bool (and_no1 (by assumption))) | exact G.retFV rfl rfl (congrArg Value.bool (and_no2 (by assumption))) | exact G.retFV rfl rfl (congrArg Value.bool (and_no (upM_len (by omega)))) | exact G.retFV rfl rfl (congrArg Value.bool (and_no (upM_elt hlt (by rw [hup]; (simp_all <;> omega))))) | exact G.retFV rfl rfl (congrArg Value.bool (and_yes (by assumption) (by assumption) (upM_yes ht hk hlt (by omega))))
def planAt (cs : List CartonM) (ss : List SpotM) (i : Nat) : Bool := match cs[i]?, ss[i]? with
  | some c, some s => (inB c.t 0 999 && inB c.g 0 3 && upM c.l) && inB s.p 0 2000 && inB s.x 0 2000 && inB s.y 0 2000 && inB s.z 0 2000
  | _, _ => true
def planOkM (cs : List CartonM) (ss : List SpotM) : Bool := decide (ss.length = cs.length) && decide (cs.length ≤ 100) && (List.range cs.length).all (planAt cs ss)
theorem planAt_eq {cs : List (CartonM × Value)} {ss : List SpotM} {k : Nat} {c : CartonM × Value} {s : SpotM} (h : cs[k]? = some c) (h2 : ss[k]? = some s) :
    planAt (cs.map Prod.fst) ss k = ((inB c.1.t 0 999 && inB c.1.g 0 3 && upM c.1.l) && inB s.p 0 2000 && inB s.x 0 2000 && inB s.y 0 2000 && inB s.z 0 2000) := by
  simp [planAt, h, h2]
theorem planOk_len {cs : List (CartonM × Value)} {ss : List SpotM} (h : ss.length ≠ cs.length) : false = planOkM (cs.map Prod.fst) ss := by
  rw [planOkM, List.length_map, decide_eq_false h]; rfl
theorem planOk_many {cs : List (CartonM × Value)} {ss : List SpotM} (h : 100 < cs.length) : false = planOkM (cs.map Prod.fst) ss := by
  rw [planOkM, List.length_map, decide_eq_false (p := cs.length ≤ 100) (by omega), Bool.and_false]; rfl
theorem planOk_elt {cs : List (CartonM × Value)} {ss : List SpotM} {k : Nat} (h : k < cs.length) (hk : planAt (cs.map Prod.fst) ss k = false) : false = planOkM (cs.map Prod.fst) ss := by
  rw [planOkM, List.length_map, range_no h hk, Bool.and_false]
theorem planOk_yes {cs : List (CartonM × Value)} {ss : List SpotM} {k : Nat} (h : (List.range k).all (planAt (cs.map Prod.fst) ss) = true) (h1 : k ≤ cs.length) (h2 : ¬ k < cs.length) (h3 : ss.length = cs.length) (h4 : cs.length ≤ 100) : true = planOkM (cs.map Prod.fst) ss := by
  have : k = cs.length := by omega
  subst this
  rw [planOkM, List.length_map, h, decide_eq_true h3, decide_eq_true h4]; rfl
theorem implPlanOk_any {cv sv : Value} {cs : List (CartonM × Value)} {ss : List SpotM} (w : World) (h : Rd w cv 3 (cs.map CartonM.cells)) (hs : Subs w CartonM.l cs) (h3 : Rd w sv 4 (ss.map SpotM.cells)) : FnV Try.prog 52 [.agg [cv, sv].toArray] w (.bool (planOkM (cs.map Prod.fst) ss)) := by
  have hle := h.le_map
  have hln : (cs.map CartonM.cells).length = cs.length := by simp
  have hln2 : (ss.map SpotM.cells).length = ss.length := by simp
  refine FnV.of (n := 73) Try.func52 rfl rfl ?_
  refine G.seq ?_
  refine G.region ?_
  refine G.op (og_box rfl rfl) rfl (fun b _ => ?_)
  refine G.v (rv_assign rfl) rfl ?_
  refine G.done ?_
  refine G.thenN ?_
  refine G.seq ?_
  refine G.seq ?_
  refine G.region ?_
  (first | refine G.v (rv_field rfl) rfl ?_ | refine G.v (rv_fieldE rfl) rfl ?_)
  (first | refine G.v (rv_load1 0 rfl rfl rfl) rfl ?_ | refine G.v (rv_load1 1 rfl rfl rfl) rfl ?_ | refine G.v (rv_load1 2 rfl rfl rfl) rfl ?_ | refine G.v (rv_load1 3 rfl rfl rfl) rfl ?_ | refine G.v (rv_loadE rfl (by first | exact Rd.stays (by assumption) | exact Rd.owned 0 rfl | exact Rd.owned 1 rfl | exact Rd.owned 2 rfl | exact Rd.owned 3 rfl) (by assumption) rfl) rfl ?_)
  refine G.v (rv_len rfl (by first | exact Rd.stays (by assumption) | exact Rd.owned 0 rfl | exact Rd.owned 1 rfl | exact Rd.owned 2 rfl | exact Rd.owned 3 rfl)) rfl ?_
  (first | refine G.v (rv_field rfl) rfl ?_ | refine G.v (rv_fieldE rfl) rfl ?_)
  (first | refine G.v (rv_load1 0 rfl rfl rfl) rfl ?_ | refine G.v (rv_load1 1 rfl rfl rfl) rfl ?_ | refine G.v (rv_load1 2 rfl rfl rfl) rfl ?_ | refine G.v (rv_load1 3 rfl rfl rfl) rfl ?_ | refine G.v (rv_loadE rfl (by first | exact Rd.stays (by assumption) | exact Rd.owned 0 rfl | exact Rd.owned 1 rfl | exact Rd.owned 2 rfl | exact Rd.owned 3 rfl) (by assumption) rfl) rfl ?_)
  refine G.v (rv_len rfl (by first | exact Rd.stays (by assumption) | exact Rd.owned 0 rfl | exact Rd.owned 1 rfl | exact Rd.owned 2 rfl | exact Rd.owned 3 rfl)) rfl ?_
  refine G.v (rv_neq rfl rfl) rfl ?_
  refine G.v (rv_move rfl) rfl ?_
  all_goals (((with_reducible refine G.gP rfl rfl (fun hg => ?_) (fun hg => ?_)) <;> (try exact Bool.noConfusion hg) <;> (first | (refine G.gY rfl rfl ?_; (first | refine G.v (rv_field rfl) rfl ?_ | refine G.v (rv_fieldE rfl) rfl ?_)) | refine G.gN rfl rfl rfl ?_ | refine G.gU rfl rfl rfl ?_)))
  all_goals ((first | (refine G.gY rfl rfl ?_; (first | refine G.v (rv_load1 0 rfl rfl rfl) rfl ?_ | refine G.v (rv_load1 1 rfl rfl rfl) rfl ?_ | refine G.v (rv_load1 2 rfl rfl rfl) rfl ?_ | refine G.v (rv_load1 3 rfl rfl rfl) rfl ?_ | refine G.v (rv_loadE rfl (by first | exact Rd.stays (by assumption) | exact Rd.owned 0 rfl | exact Rd.owned 1 rfl | exact Rd.owned 2 rfl | exact Rd.owned 3 rfl) (by assumption) rfl) rfl ?_)) | refine G.gN rfl rfl rfl ?_ | refine G.gU rfl rfl rfl ?_))
  all_goals ((first | (refine G.gY rfl rfl ?_; refine G.v (rv_len rfl (by first | exact Rd.stays (by assumption) | exact Rd.owned 0 rfl | exact Rd.owned 1 rfl | exact Rd.owned 2 rfl | exact Rd.owned 3 rfl)) rfl ?_) | refine G.gN rfl rfl rfl ?_ | refine G.gU rfl rfl rfl ?_))
  all_goals ((first | (refine G.gY rfl rfl ?_; refine G.v (rv_gtr rfl rfl) rfl ?_) | refine G.gN rfl rfl rfl ?_ | refine G.gU rfl rfl rfl ?_))
  all_goals ((first | refine G.v (rv_pickT rfl rfl) rfl ?_ | refine G.v (rv_pickF rfl rfl) rfl ?_))
  all_goals
   refine G.done ?_
   refine G.thenN ?_
   refine G.cond rfl (fun hc => ?_) (fun hc => ?_)
   · try exact Bool.noConfusion hc
     all_goals
      try replace hc := of_decide_eq_true hc
      try (exfalso; first | contradiction | omega)
      all_goals
       refine G.seq ?_
       refine G.region ?_
       refine G.v (rv_assign rfl) rfl ?_
       refine G.done ?_
       refine G.thenN ?_
       refine G.ret ?_
       refine G.thenR ?_
       first | exact G.retFV rfl rfl (congrArg Value.bool (planOk_yes ht hk hlt hlen (by omega))) | exact G.retFV rfl rfl (congrArg Value.bool (planOk_elt hlt (by rw [hpa, Bool.eq_false_iff]; (intro hh; simp_all; done)))) | exact G.retFV rfl rfl (congrArg Value.bool (planOk_many (by omega))) | exact G.retFV rfl rfl (congrArg Value.bool (planOk_len (by have := of_decide_eq_true hg; omega)))
   · try exact Bool.noConfusion hc
     all_goals
      try replace hc := of_decide_eq_false hc
      try (exfalso; first | contradiction | omega)
      all_goals
       refine G.skip ?_
       refine G.thenN ?_
       refine G.seq ?_
       refine G.seq ?_
       refine G.region ?_
       (first | refine G.v (rv_field rfl) rfl ?_ | refine G.v (rv_fieldE rfl) rfl ?_)
       (first | refine G.v (rv_load1 0 rfl rfl rfl) rfl ?_ | refine G.v (rv_load1 1 rfl rfl rfl) rfl ?_ | refine G.v (rv_load1 2 rfl rfl rfl) rfl ?_ | refine G.v (rv_load1 3 rfl rfl rfl) rfl ?_ | refine G.v (rv_loadE rfl (by first | exact Rd.stays (by assumption) | exact Rd.owned 0 rfl | exact Rd.owned 1 rfl | exact Rd.owned 2 rfl | exact Rd.owned 3 rfl) (by assumption) rfl) rfl ?_)
       refine G.v (rv_len rfl (by first | exact Rd.stays (by assumption) | exact Rd.owned 0 rfl | exact Rd.owned 1 rfl | exact Rd.owned 2 rfl | exact Rd.owned 3 rfl)) rfl ?_
       refine G.v (rv_move rfl) rfl ?_
       refine G.done ?_
       refine G.thenN ?_
       refine G.block ?_
       -- loop 0: turned [22], kept [1, 20, 21]
       have hlen : ss.length = cs.length := by have := of_decide_eq_false hg; omega
       refine G.loopK (ι := Nat) (ks := [1, 20, 21]) (fun k => [(22, .int .i64 k)]) (fun _ => []) (fun k => k ≤ cs.length ∧ (List.range k).all (planAt (cs.map Prod.fst) ss) = true) (fun k => cs.length - k) 0 (.cons rfl (.cons rfl (.cons rfl (.nil)))) rfl ?_ ?_ ?_
       · exact ⟨Nat.zero_le _, rfl⟩
       · exact ⟨rfl, trivial⟩
       rintro k ⟨hk, ht⟩
       by_cases hlt : k < cs.length
       case' pos => (obtain ⟨b, hb⟩ := get_of_lt hlt; obtain ⟨s, hb2⟩ := get_of_lt (l := ss) (k := k) (by omega); have he := get_map hb CartonM.cells; have he2 := get_map hb2 SpotM.cells; have hov : b.2.oneCell' = true := (h.good _ (List.mem_of_getElem? he)).2 b.2 (by simp [CartonM.cells]); have hpa := planAt_eq hb hb2)
       all_goals
        refine G.seq ?_
        refine G.region ?_
        refine G.v (rv_lss rfl rfl) rfl ?_
        refine G.done ?_
        refine G.thenN ?_
        refine G.seq ?_
        refine G.cond rfl (fun hc => ?_) (fun hc => ?_)
        · try exact Bool.noConfusion hc
          all_goals
           try replace hc := of_decide_eq_true hc
           try (exfalso; first | contradiction | omega)
           all_goals
            refine G.skip ?_
            refine G.thenN ?_
            refine G.seq ?_
            refine G.block ?_
            refine G.seq ?_
            refine G.region ?_
            refine G.v (rv_move rfl) rfl ?_
            (first | refine G.v (rv_indexH rfl rfl (by first | exact Rd.stays (by assumption) | exact Rd.owned 0 rfl | exact Rd.owned 1 rfl | exact Rd.owned 2 rfl | exact Rd.owned 3 rfl) rfl (by assumption)) rfl ?_ | refine G.v (rv_index rfl rfl (by first | exact Rd.stays (by assumption) | exact Rd.owned 0 rfl | exact Rd.owned 1 rfl | exact Rd.owned 2 rfl | exact Rd.owned 3 rfl) rfl (by assumption)) rfl ?_)
            (first | refine G.v (rv_loadW 0 rfl rfl rfl) rfl ?_ | refine G.v (rv_loadW 1 rfl rfl rfl) rfl ?_ | refine G.v (rv_loadW 2 rfl rfl rfl) rfl ?_ | refine G.v (rv_loadW 3 rfl rfl rfl) rfl ?_ | refine G.v (rv_loadEW rfl (by first | exact Rd.stays (by assumption) | exact Rd.owned 0 rfl | exact Rd.owned 1 rfl | exact Rd.owned 2 rfl | exact Rd.owned 3 rfl) (by assumption) rfl) rfl ?_ | refine G.v (rv_loadS 0 rfl rfl rfl rfl) rfl ?_ | refine G.v (rv_loadS 1 rfl rfl rfl rfl) rfl ?_ | refine G.v (rv_loadS 2 rfl rfl rfl rfl) rfl ?_ | refine G.v (rv_loadS 3 rfl rfl rfl rfl) rfl ?_ | refine G.v (rv_loadES rfl (by first | exact Rd.stays (by assumption) | exact Rd.owned 0 rfl | exact Rd.owned 1 rfl | exact Rd.owned 2 rfl | exact Rd.owned 3 rfl) (by assumption) rfl rfl) rfl ?_)
            refine G.op (og_alloc) rfl (fun b _ => ?_)
            refine G.v (rv_assign rfl) rfl ?_
            (first | refine G.op0 (og_store 0 rfl rfl rfl rfl rfl (by repeat (first | rfl | refine one_cons (by first | rfl | assumption) ?_)) rfl rfl) (fun _ _ => ?_) | refine G.op0 (og_store 1 rfl rfl rfl rfl rfl (by repeat (first | rfl | refine one_cons (by first | rfl | assumption) ?_)) rfl rfl) (fun _ _ => ?_) | refine G.op0 (og_store 2 rfl rfl rfl rfl rfl (by repeat (first | rfl | refine one_cons (by first | rfl | assumption) ?_)) rfl rfl) (fun _ _ => ?_) | refine G.op0 (og_store 3 rfl rfl rfl rfl rfl (by repeat (first | rfl | refine one_cons (by first | rfl | assumption) ?_)) rfl rfl) (fun _ _ => ?_) | refine G.op0 (og_storeE 0 rfl rfl rfl (by assumption) rfl rfl (by repeat (first | rfl | refine one_cons (by first | rfl | assumption) ?_)) rfl rfl) (fun _ _ => ?_) | refine G.op0 (og_storeE 1 rfl rfl rfl (by assumption) rfl rfl (by repeat (first | rfl | refine one_cons (by first | rfl | assumption) ?_)) rfl rfl) (fun _ _ => ?_) | refine G.op0 (og_storeE 2 rfl rfl rfl (by assumption) rfl rfl (by repeat (first | rfl | refine one_cons (by first | rfl | assumption) ?_)) rfl rfl) (fun _ _ => ?_) | refine G.op0 (og_storeE 3 rfl rfl rfl (by assumption) rfl rfl (by repeat (first | rfl | refine one_cons (by first | rfl | assumption) ?_)) rfl rfl) (fun _ _ => ?_))
            refine G.done ?_
            refine G.thenN ?_
            refine G.seq ?_
            refine G.region ?_
            (first | refine G.v (rv_field rfl) rfl ?_ | refine G.v (rv_fieldE rfl) rfl ?_)
            (first | refine G.v (rv_load1 0 rfl rfl rfl) rfl ?_ | refine G.v (rv_load1 1 rfl rfl rfl) rfl ?_ | refine G.v (rv_load1 2 rfl rfl rfl) rfl ?_ | refine G.v (rv_load1 3 rfl rfl rfl) rfl ?_ | refine G.v (rv_loadE rfl (by first | exact Rd.stays (by assumption) | exact Rd.owned 0 rfl | exact Rd.owned 1 rfl | exact Rd.owned 2 rfl | exact Rd.owned 3 rfl) (by assumption) rfl) rfl ?_)
            refine G.v (rv_move rfl) rfl ?_
            (first | refine G.v (rv_indexH rfl rfl (by first | exact Rd.stays (by assumption) | exact Rd.owned 0 rfl | exact Rd.owned 1 rfl | exact Rd.owned 2 rfl | exact Rd.owned 3 rfl) rfl (by assumption)) rfl ?_ | refine G.v (rv_index rfl rfl (by first | exact Rd.stays (by assumption) | exact Rd.owned 0 rfl | exact Rd.owned 1 rfl | exact Rd.owned 2 rfl | exact Rd.owned 3 rfl) rfl (by assumption)) rfl ?_)
            (first | refine G.v (rv_loadW 0 rfl rfl rfl) rfl ?_ | refine G.v (rv_loadW 1 rfl rfl rfl) rfl ?_ | refine G.v (rv_loadW 2 rfl rfl rfl) rfl ?_ | refine G.v (rv_loadW 3 rfl rfl rfl) rfl ?_ | refine G.v (rv_loadEW rfl (by first | exact Rd.stays (by assumption) | exact Rd.owned 0 rfl | exact Rd.owned 1 rfl | exact Rd.owned 2 rfl | exact Rd.owned 3 rfl) (by assumption) rfl) rfl ?_ | refine G.v (rv_loadS 0 rfl rfl rfl rfl) rfl ?_ | refine G.v (rv_loadS 1 rfl rfl rfl rfl) rfl ?_ | refine G.v (rv_loadS 2 rfl rfl rfl rfl) rfl ?_ | refine G.v (rv_loadS 3 rfl rfl rfl rfl) rfl ?_ | refine G.v (rv_loadES rfl (by first | exact Rd.stays (by assumption) | exact Rd.owned 0 rfl | exact Rd.owned 1 rfl | exact Rd.owned 2 rfl | exact Rd.owned 3 rfl) (by assumption) rfl rfl) rfl ?_)
            refine G.op (og_alloc) rfl (fun b _ => ?_)
            (first | refine G.op0 (og_store 0 rfl rfl rfl rfl rfl rfl rfl rfl) (fun _ _ => ?_) | refine G.op0 (og_store 1 rfl rfl rfl rfl rfl rfl rfl rfl) (fun _ _ => ?_) | refine G.op0 (og_store 2 rfl rfl rfl rfl rfl rfl rfl rfl) (fun _ _ => ?_) | refine G.op0 (og_store 3 rfl rfl rfl rfl rfl rfl rfl rfl) (fun _ _ => ?_) | refine G.op0 (og_storeE 0 rfl rfl rfl (by assumption) rfl rfl rfl rfl rfl) (fun _ _ => ?_) | refine G.op0 (og_storeE 1 rfl rfl rfl (by assumption) rfl rfl rfl rfl rfl) (fun _ _ => ?_) | refine G.op0 (og_storeE 2 rfl rfl rfl (by assumption) rfl rfl rfl rfl rfl) (fun _ _ => ?_) | refine G.op0 (og_storeE 3 rfl rfl rfl (by assumption) rfl rfl rfl rfl rfl) (fun _ _ => ?_))
            refine G.done ?_
            refine G.thenN ?_
            refine G.seq ?_
            refine G.region ?_
            (first | refine G.v (rv_field rfl) rfl ?_ | refine G.v (rv_fieldE rfl) rfl ?_)
            (first | refine G.v (rv_load1 0 rfl rfl rfl) rfl ?_ | refine G.v (rv_load1 1 rfl rfl rfl) rfl ?_ | refine G.v (rv_load1 2 rfl rfl rfl) rfl ?_ | refine G.v (rv_load1 3 rfl rfl rfl) rfl ?_ | refine G.v (rv_loadE rfl (by first | exact Rd.stays (by assumption) | exact Rd.owned 0 rfl | exact Rd.owned 1 rfl | exact Rd.owned 2 rfl | exact Rd.owned 3 rfl) (by assumption) rfl) rfl ?_)
            refine G.op (og_callV rfl rfl (fun w _ => in_any _ _ _ w)) rfl (fun _ _ => ?_)
            refine G.v (rv_not rfl) rfl ?_
            refine G.v (rv_move rfl) rfl ?_
            all_goals (((with_reducible refine G.gP rfl rfl (fun hg => ?_) (fun hg => ?_)) <;> (try exact Bool.noConfusion hg) <;> (first | (refine G.gY rfl rfl ?_; (first | refine G.v (rv_field rfl) rfl ?_ | refine G.v (rv_fieldE rfl) rfl ?_)) | refine G.gN rfl rfl rfl ?_ | refine G.gU rfl rfl rfl ?_)))
            all_goals ((first | (refine G.gY rfl rfl ?_; (first | refine G.v (rv_load1 0 rfl rfl rfl) rfl ?_ | refine G.v (rv_load1 1 rfl rfl rfl) rfl ?_ | refine G.v (rv_load1 2 rfl rfl rfl) rfl ?_ | refine G.v (rv_load1 3 rfl rfl rfl) rfl ?_ | refine G.v (rv_loadE rfl (by first | exact Rd.stays (by assumption) | exact Rd.owned 0 rfl | exact Rd.owned 1 rfl | exact Rd.owned 2 rfl | exact Rd.owned 3 rfl) (by assumption) rfl) rfl ?_)) | refine G.gN rfl rfl rfl ?_ | refine G.gU rfl rfl rfl ?_))
            all_goals ((first | (refine G.gY rfl rfl ?_; refine G.op (og_callV rfl rfl (fun w _ => in_any _ _ _ w)) rfl (fun _ _ => ?_)) | refine G.gN rfl rfl rfl ?_ | refine G.gU rfl rfl rfl ?_))
            all_goals ((first | (refine G.gY rfl rfl ?_; refine G.v (rv_not rfl) rfl ?_) | refine G.gN rfl rfl rfl ?_ | refine G.gU rfl rfl rfl ?_))
            all_goals ((first | refine G.v (rv_pickT rfl rfl) rfl ?_ | refine G.v (rv_pickF rfl rfl) rfl ?_))
            all_goals (refine G.v (rv_move rfl) rfl ?_)
            all_goals (((with_reducible refine G.gP rfl rfl (fun hg => ?_) (fun hg => ?_)) <;> (try exact Bool.noConfusion hg) <;> (first | (refine G.gY rfl rfl ?_; (first | refine G.v (rv_field rfl) rfl ?_ | refine G.v (rv_fieldE rfl) rfl ?_)) | refine G.gN rfl rfl rfl ?_ | refine G.gU rfl rfl rfl ?_)))
            all_goals ((first | (refine G.gY rfl rfl ?_; (first | refine G.v (rv_load1 0 rfl rfl rfl) rfl ?_ | refine G.v (rv_load1 1 rfl rfl rfl) rfl ?_ | refine G.v (rv_load1 2 rfl rfl rfl) rfl ?_ | refine G.v (rv_load1 3 rfl rfl rfl) rfl ?_ | refine G.v (rv_loadE rfl (by first | exact Rd.stays (by assumption) | exact Rd.owned 0 rfl | exact Rd.owned 1 rfl | exact Rd.owned 2 rfl | exact Rd.owned 3 rfl) (by assumption) rfl) rfl ?_)) | refine G.gN rfl rfl rfl ?_ | refine G.gU rfl rfl rfl ?_))
            all_goals ((first | (refine G.gY rfl rfl ?_; refine G.op (og_callV rfl rfl (fun w hh => unitsRight_any w (Rd.stays (hs.at hb) _ hh))) rfl (fun _ _ => ?_)) | refine G.gN rfl rfl rfl ?_ | refine G.gU rfl rfl rfl ?_))
            all_goals ((first | (refine G.gY rfl rfl ?_; refine G.v (rv_not rfl) rfl ?_) | refine G.gN rfl rfl rfl ?_ | refine G.gU rfl rfl rfl ?_))
            all_goals ((first | refine G.v (rv_pickT rfl rfl) rfl ?_ | refine G.v (rv_pickF rfl rfl) rfl ?_))
            all_goals (refine G.v (rv_move rfl) rfl ?_)
            all_goals (((with_reducible refine G.gP rfl rfl (fun hg => ?_) (fun hg => ?_)) <;> (try exact Bool.noConfusion hg) <;> (first | (refine G.gY rfl rfl ?_; (first | refine G.v (rv_field rfl) rfl ?_ | refine G.v (rv_fieldE rfl) rfl ?_)) | refine G.gN rfl rfl rfl ?_ | refine G.gU rfl rfl rfl ?_)))
            all_goals ((first | (refine G.gY rfl rfl ?_; (first | refine G.v (rv_load1 0 rfl rfl rfl) rfl ?_ | refine G.v (rv_load1 1 rfl rfl rfl) rfl ?_ | refine G.v (rv_load1 2 rfl rfl rfl) rfl ?_ | refine G.v (rv_load1 3 rfl rfl rfl) rfl ?_ | refine G.v (rv_loadE rfl (by first | exact Rd.stays (by assumption) | exact Rd.owned 0 rfl | exact Rd.owned 1 rfl | exact Rd.owned 2 rfl | exact Rd.owned 3 rfl) (by assumption) rfl) rfl ?_)) | refine G.gN rfl rfl rfl ?_ | refine G.gU rfl rfl rfl ?_))
            all_goals ((first | (refine G.gY rfl rfl ?_; refine G.op (og_callV rfl rfl (fun w _ => isPlace_any _ w)) rfl (fun _ _ => ?_)) | refine G.gN rfl rfl rfl ?_ | refine G.gU rfl rfl rfl ?_))
            all_goals ((first | (refine G.gY rfl rfl ?_; refine G.v (rv_not rfl) rfl ?_) | refine G.gN rfl rfl rfl ?_ | refine G.gU rfl rfl rfl ?_))
            all_goals ((first | refine G.v (rv_pickT rfl rfl) rfl ?_ | refine G.v (rv_pickF rfl rfl) rfl ?_))
            all_goals (refine G.v (rv_move rfl) rfl ?_)
            all_goals (((with_reducible refine G.gP rfl rfl (fun hg => ?_) (fun hg => ?_)) <;> (try exact Bool.noConfusion hg) <;> (first | (refine G.gY rfl rfl ?_; (first | refine G.v (rv_field rfl) rfl ?_ | refine G.v (rv_fieldE rfl) rfl ?_)) | refine G.gN rfl rfl rfl ?_ | refine G.gU rfl rfl rfl ?_)))
            all_goals ((first | (refine G.gY rfl rfl ?_; (first | refine G.v (rv_load1 0 rfl rfl rfl) rfl ?_ | refine G.v (rv_load1 1 rfl rfl rfl) rfl ?_ | refine G.v (rv_load1 2 rfl rfl rfl) rfl ?_ | refine G.v (rv_load1 3 rfl rfl rfl) rfl ?_ | refine G.v (rv_loadE rfl (by first | exact Rd.stays (by assumption) | exact Rd.owned 0 rfl | exact Rd.owned 1 rfl | exact Rd.owned 2 rfl | exact Rd.owned 3 rfl) (by assumption) rfl) rfl ?_)) | refine G.gN rfl rfl rfl ?_ | refine G.gU rfl rfl rfl ?_))
            all_goals ((first | (refine G.gY rfl rfl ?_; refine G.op (og_callV rfl rfl (fun w _ => isPlace_any _ w)) rfl (fun _ _ => ?_)) | refine G.gN rfl rfl rfl ?_ | refine G.gU rfl rfl rfl ?_))
            all_goals ((first | (refine G.gY rfl rfl ?_; refine G.v (rv_not rfl) rfl ?_) | refine G.gN rfl rfl rfl ?_ | refine G.gU rfl rfl rfl ?_))
            all_goals ((first | refine G.v (rv_pickT rfl rfl) rfl ?_ | refine G.v (rv_pickF rfl rfl) rfl ?_))
            all_goals (refine G.v (rv_move rfl) rfl ?_)
            all_goals (((with_reducible refine G.gP rfl rfl (fun hg => ?_) (fun hg => ?_)) <;> (try exact Bool.noConfusion hg) <;> (first | (refine G.gY rfl rfl ?_; (first | refine G.v (rv_field rfl) rfl ?_ | refine G.v (rv_fieldE rfl) rfl ?_)) | refine G.gN rfl rfl rfl ?_ | refine G.gU rfl rfl rfl ?_)))
            all_goals ((first | (refine G.gY rfl rfl ?_; (first | refine G.v (rv_load1 0 rfl rfl rfl) rfl ?_ | refine G.v (rv_load1 1 rfl rfl rfl) rfl ?_ | refine G.v (rv_load1 2 rfl rfl rfl) rfl ?_ | refine G.v (rv_load1 3 rfl rfl rfl) rfl ?_ | refine G.v (rv_loadE rfl (by first | exact Rd.stays (by assumption) | exact Rd.owned 0 rfl | exact Rd.owned 1 rfl | exact Rd.owned 2 rfl | exact Rd.owned 3 rfl) (by assumption) rfl) rfl ?_)) | refine G.gN rfl rfl rfl ?_ | refine G.gU rfl rfl rfl ?_))
            all_goals ((first | (refine G.gY rfl rfl ?_; refine G.op (og_callV rfl rfl (fun w _ => isPlace_any _ w)) rfl (fun _ _ => ?_)) | refine G.gN rfl rfl rfl ?_ | refine G.gU rfl rfl rfl ?_))
            all_goals ((first | (refine G.gY rfl rfl ?_; refine G.v (rv_not rfl) rfl ?_) | refine G.gN rfl rfl rfl ?_ | refine G.gU rfl rfl rfl ?_))
            all_goals ((first | refine G.v (rv_pickT rfl rfl) rfl ?_ | refine G.v (rv_pickF rfl rfl) rfl ?_))
            all_goals (refine G.v (rv_move rfl) rfl ?_)
            all_goals (((with_reducible refine G.gP rfl rfl (fun hg => ?_) (fun hg => ?_)) <;> (try exact Bool.noConfusion hg) <;> (first | (refine G.gY rfl rfl ?_; (first | refine G.v (rv_field rfl) rfl ?_ | refine G.v (rv_fieldE rfl) rfl ?_)) | refine G.gN rfl rfl rfl ?_ | refine G.gU rfl rfl rfl ?_)))
            all_goals ((first | (refine G.gY rfl rfl ?_; (first | refine G.v (rv_load1 0 rfl rfl rfl) rfl ?_ | refine G.v (rv_load1 1 rfl rfl rfl) rfl ?_ | refine G.v (rv_load1 2 rfl rfl rfl) rfl ?_ | refine G.v (rv_load1 3 rfl rfl rfl) rfl ?_ | refine G.v (rv_loadE rfl (by first | exact Rd.stays (by assumption) | exact Rd.owned 0 rfl | exact Rd.owned 1 rfl | exact Rd.owned 2 rfl | exact Rd.owned 3 rfl) (by assumption) rfl) rfl ?_)) | refine G.gN rfl rfl rfl ?_ | refine G.gU rfl rfl rfl ?_))
            all_goals ((first | (refine G.gY rfl rfl ?_; refine G.op (og_callV rfl rfl (fun w _ => isPlace_any _ w)) rfl (fun _ _ => ?_)) | refine G.gN rfl rfl rfl ?_ | refine G.gU rfl rfl rfl ?_))
            all_goals ((first | (refine G.gY rfl rfl ?_; refine G.v (rv_not rfl) rfl ?_) | refine G.gN rfl rfl rfl ?_ | refine G.gU rfl rfl rfl ?_))
            all_goals ((first | refine G.v (rv_pickT rfl rfl) rfl ?_ | refine G.v (rv_pickF rfl rfl) rfl ?_))
            all_goals
             refine G.done ?_
             refine G.thenN ?_
             refine G.cond rfl (fun hc => ?_) (fun hc => ?_)
             · try exact Bool.noConfusion hc
               all_goals
                try replace hc := of_decide_eq_true hc
                try (exfalso; first | contradiction | omega)
                all_goals
                 refine G.seq ?_
                 refine G.region ?_
                 refine G.v (rv_assign rfl) rfl ?_
                 refine G.done ?_
                 refine G.thenN ?_
                 refine G.ret ?_
                 refine G.inR ?_
                 refine G.thenR ?_
                 refine G.thenR ?_
                 refine G.inR ?_
                 refine G.thenR ?_
                 first | exact G.retFV rfl rfl (congrArg Value.bool (planOk_yes ht hk hlt hlen (by omega))) | exact G.retFV rfl rfl (congrArg Value.bool (planOk_elt hlt (by rw [hpa, Bool.eq_false_iff]; (intro hh; simp_all; done)))) | exact G.retFV rfl rfl (congrArg Value.bool (planOk_many (by omega))) | exact G.retFV rfl rfl (congrArg Value.bool (planOk_len (by have := of_decide_eq_true hg; omega)))
             · try exact Bool.noConfusion hc
               all_goals
                try replace hc := of_decide_eq_false hc
                try (exfalso; first | contradiction | omega)
                all_goals
                 refine G.skip ?_
                 refine G.inN ?_
                 refine G.thenN ?_
                 refine G.region ?_
                 (first | refine G.v (rv_incr rfl rfl (by omega)) rfl ?_ | refine G.v (rv_addB rfl rfl (by omega) (by omega)) rfl ?_)
                 refine G.v (rv_move rfl) rfl ?_
                 refine G.done ?_
                 first | refine G.backK (k + 1) 0 rfl (.cons rfl (.cons rfl (.cons rfl (.nil)))) ?_ ?_ ?_ | refine G.backK (k + 1) 1 rfl (.cons rfl (.cons rfl (.cons rfl (.nil)))) ?_ ?_ ?_ | refine G.backK (k + 1) 2 rfl (.cons rfl (.cons rfl (.cons rfl (.nil)))) ?_ ?_ ?_ | refine G.backK (k + 1) 3 rfl (.cons rfl (.cons rfl (.cons rfl (.nil)))) ?_ ?_ ?_
                 · exact ⟨rfl, trivial⟩
                 · exact ⟨hlt, range_next ht (by rw [hpa]; (simp_all; done))⟩
                 · omega
        · try exact Bool.noConfusion hc
          all_goals
           try replace hc := of_decide_eq_false hc
           try (exfalso; first | contradiction | omega)
           all_goals
            refine G.exit ?_
            refine G.thenX ?_
            refine G.thenX ?_
            refine G.inX ?_
            refine G.thenN ?_
            refine G.seq ?_
            refine G.region ?_
            refine G.v (rv_assign rfl) rfl ?_
            refine G.done ?_
            refine G.thenN ?_
            refine G.ret ?_
            first | exact G.retFV rfl rfl (congrArg Value.bool (planOk_yes ht hk hlt hlen (by omega))) | exact G.retFV rfl rfl (congrArg Value.bool (planOk_elt hlt (by rw [hpa, Bool.eq_false_iff]; (intro hh; simp_all; done)))) | exact G.retFV rfl rfl (congrArg Value.bool (planOk_many (by omega))) | exact G.retFV rfl rfl (congrArg Value.bool (planOk_len (by have := of_decide_eq_true hg; omega)))

theorem specPlanOk_any {cv sv : Value} {cs : List (CartonM × Value)} {ss : List SpotM} (w : World) (h : Rd w cv 3 (cs.map CartonM.cells)) (hs : Subs w CartonM.l cs) (h3 : Rd w sv 4 (ss.map SpotM.cells)) : FnV Try.prog 50 [.agg [cv, sv].toArray] w (.bool (planOkM (cs.map Prod.fst) ss)) := by
  have hle := h.le_map
  have hln : (cs.map CartonM.cells).length = cs.length := by simp
  have hln2 : (ss.map SpotM.cells).length = ss.length := by simp
  refine FnV.of (n := 61) Try.func50 rfl rfl ?_
  refine G.seq ?_
  refine G.region ?_
  refine G.op (og_box rfl rfl) rfl (fun b _ => ?_)
  refine G.v (rv_assign rfl) rfl ?_
  refine G.done ?_
  refine G.thenN ?_
  refine G.seq ?_
  refine G.seq ?_
  refine G.region ?_
  (first | refine G.v (rv_field rfl) rfl ?_ | refine G.v (rv_fieldE rfl) rfl ?_)
  (first | refine G.v (rv_load1 0 rfl rfl rfl) rfl ?_ | refine G.v (rv_load1 1 rfl rfl rfl) rfl ?_ | refine G.v (rv_load1 2 rfl rfl rfl) rfl ?_ | refine G.v (rv_load1 3 rfl rfl rfl) rfl ?_ | refine G.v (rv_loadE rfl (by first | exact Rd.stays (by assumption) | exact Rd.owned 0 rfl | exact Rd.owned 1 rfl | exact Rd.owned 2 rfl | exact Rd.owned 3 rfl) (by assumption) rfl) rfl ?_)
  refine G.v (rv_len rfl (by first | exact Rd.stays (by assumption) | exact Rd.owned 0 rfl | exact Rd.owned 1 rfl | exact Rd.owned 2 rfl | exact Rd.owned 3 rfl)) rfl ?_
  (first | refine G.v (rv_field rfl) rfl ?_ | refine G.v (rv_fieldE rfl) rfl ?_)
  (first | refine G.v (rv_load1 0 rfl rfl rfl) rfl ?_ | refine G.v (rv_load1 1 rfl rfl rfl) rfl ?_ | refine G.v (rv_load1 2 rfl rfl rfl) rfl ?_ | refine G.v (rv_load1 3 rfl rfl rfl) rfl ?_ | refine G.v (rv_loadE rfl (by first | exact Rd.stays (by assumption) | exact Rd.owned 0 rfl | exact Rd.owned 1 rfl | exact Rd.owned 2 rfl | exact Rd.owned 3 rfl) (by assumption) rfl) rfl ?_)
  refine G.v (rv_len rfl (by first | exact Rd.stays (by assumption) | exact Rd.owned 0 rfl | exact Rd.owned 1 rfl | exact Rd.owned 2 rfl | exact Rd.owned 3 rfl)) rfl ?_
  refine G.v (rv_neq rfl rfl) rfl ?_
  refine G.v (rv_move rfl) rfl ?_
  all_goals (((with_reducible refine G.gP rfl rfl (fun hg => ?_) (fun hg => ?_)) <;> (try exact Bool.noConfusion hg) <;> (first | (refine G.gY rfl rfl ?_; (first | refine G.v (rv_field rfl) rfl ?_ | refine G.v (rv_fieldE rfl) rfl ?_)) | refine G.gN rfl rfl rfl ?_ | refine G.gU rfl rfl rfl ?_)))
  all_goals ((first | (refine G.gY rfl rfl ?_; (first | refine G.v (rv_load1 0 rfl rfl rfl) rfl ?_ | refine G.v (rv_load1 1 rfl rfl rfl) rfl ?_ | refine G.v (rv_load1 2 rfl rfl rfl) rfl ?_ | refine G.v (rv_load1 3 rfl rfl rfl) rfl ?_ | refine G.v (rv_loadE rfl (by first | exact Rd.stays (by assumption) | exact Rd.owned 0 rfl | exact Rd.owned 1 rfl | exact Rd.owned 2 rfl | exact Rd.owned 3 rfl) (by assumption) rfl) rfl ?_)) | refine G.gN rfl rfl rfl ?_ | refine G.gU rfl rfl rfl ?_))
  all_goals ((first | (refine G.gY rfl rfl ?_; refine G.v (rv_len rfl (by first | exact Rd.stays (by assumption) | exact Rd.owned 0 rfl | exact Rd.owned 1 rfl | exact Rd.owned 2 rfl | exact Rd.owned 3 rfl)) rfl ?_) | refine G.gN rfl rfl rfl ?_ | refine G.gU rfl rfl rfl ?_))
  all_goals ((first | (refine G.gY rfl rfl ?_; refine G.v (rv_gtr rfl rfl) rfl ?_) | refine G.gN rfl rfl rfl ?_ | refine G.gU rfl rfl rfl ?_))
  all_goals ((first | refine G.v (rv_pickT rfl rfl) rfl ?_ | refine G.v (rv_pickF rfl rfl) rfl ?_))
  all_goals
   refine G.done ?_
   refine G.thenN ?_
   refine G.cond rfl (fun hc => ?_) (fun hc => ?_)
   · try exact Bool.noConfusion hc
     all_goals
      try replace hc := of_decide_eq_true hc
      try (exfalso; first | contradiction | omega)
      all_goals
       refine G.seq ?_
       refine G.region ?_
       refine G.v (rv_assign rfl) rfl ?_
       refine G.done ?_
       refine G.thenN ?_
       refine G.ret ?_
       refine G.thenR ?_
       first | exact G.retFV rfl rfl (congrArg Value.bool (planOk_yes ht hk hlt hlen (by omega))) | exact G.retFV rfl rfl (congrArg Value.bool (planOk_elt hlt (by rw [hpa, Bool.eq_false_iff]; (intro hh; simp_all; done)))) | exact G.retFV rfl rfl (congrArg Value.bool (planOk_many (by omega))) | exact G.retFV rfl rfl (congrArg Value.bool (planOk_len (by have := of_decide_eq_true hg; omega)))
   · try exact Bool.noConfusion hc
     all_goals
      try replace hc := of_decide_eq_false hc
      try (exfalso; first | contradiction | omega)
      all_goals
       refine G.skip ?_
       refine G.thenN ?_
       refine G.seq ?_
       refine G.seq ?_
       refine G.region ?_
       refine G.v (rv_assign rfl) rfl ?_
       refine G.done ?_
       refine G.thenN ?_
       refine G.block ?_
       -- loop 0: turned [3], kept [1]
       have hlen : ss.length = cs.length := by have := of_decide_eq_false hg; omega
       refine G.loopK (ι := Nat) (ks := [1]) (fun k => [(3, .int .i64 k)]) (fun _ => []) (fun k => k ≤ cs.length ∧ (List.range k).all (planAt (cs.map Prod.fst) ss) = true) (fun k => cs.length - k) 0 (.cons rfl (.nil)) rfl ?_ ?_ ?_
       · exact ⟨Nat.zero_le _, rfl⟩
       · exact ⟨rfl, trivial⟩
       rintro k ⟨hk, ht⟩
       by_cases hlt : k < cs.length
       case' pos => (obtain ⟨b, hb⟩ := get_of_lt hlt; obtain ⟨s, hb2⟩ := get_of_lt (l := ss) (k := k) (by omega); have he := get_map hb CartonM.cells; have he2 := get_map hb2 SpotM.cells; have hov : b.2.oneCell' = true := (h.good _ (List.mem_of_getElem? he)).2 b.2 (by simp [CartonM.cells]); have hpa := planAt_eq hb hb2)
       all_goals
        refine G.seq ?_
        refine G.seq ?_
        refine G.region ?_
        refine G.v (rv_move rfl) rfl ?_
        (first | refine G.v (rv_field rfl) rfl ?_ | refine G.v (rv_fieldE rfl) rfl ?_)
        (first | refine G.v (rv_load1 0 rfl rfl rfl) rfl ?_ | refine G.v (rv_load1 1 rfl rfl rfl) rfl ?_ | refine G.v (rv_load1 2 rfl rfl rfl) rfl ?_ | refine G.v (rv_load1 3 rfl rfl rfl) rfl ?_ | refine G.v (rv_loadE rfl (by first | exact Rd.stays (by assumption) | exact Rd.owned 0 rfl | exact Rd.owned 1 rfl | exact Rd.owned 2 rfl | exact Rd.owned 3 rfl) (by assumption) rfl) rfl ?_)
        refine G.v (rv_len rfl (by first | exact Rd.stays (by assumption) | exact Rd.owned 0 rfl | exact Rd.owned 1 rfl | exact Rd.owned 2 rfl | exact Rd.owned 3 rfl)) rfl ?_
        refine G.v (rv_lss rfl rfl) rfl ?_
        refine G.done ?_
        refine G.thenN ?_
        refine G.cond rfl (fun hc => ?_) (fun hc => ?_)
        · try exact Bool.noConfusion hc
          all_goals
           try replace hc := of_decide_eq_true hc
           try (exfalso; first | contradiction | omega)
           all_goals
            refine G.skip ?_
            refine G.thenN ?_
            refine G.seq ?_
            refine G.block ?_
            refine G.seq ?_
            refine G.region ?_
            (first | refine G.v (rv_field rfl) rfl ?_ | refine G.v (rv_fieldE rfl) rfl ?_)
            (first | refine G.v (rv_load1 0 rfl rfl rfl) rfl ?_ | refine G.v (rv_load1 1 rfl rfl rfl) rfl ?_ | refine G.v (rv_load1 2 rfl rfl rfl) rfl ?_ | refine G.v (rv_load1 3 rfl rfl rfl) rfl ?_ | refine G.v (rv_loadE rfl (by first | exact Rd.stays (by assumption) | exact Rd.owned 0 rfl | exact Rd.owned 1 rfl | exact Rd.owned 2 rfl | exact Rd.owned 3 rfl) (by assumption) rfl) rfl ?_)
            refine G.v (rv_move rfl) rfl ?_
            (first | refine G.v (rv_indexH rfl rfl (by first | exact Rd.stays (by assumption) | exact Rd.owned 0 rfl | exact Rd.owned 1 rfl | exact Rd.owned 2 rfl | exact Rd.owned 3 rfl) rfl (by assumption)) rfl ?_ | refine G.v (rv_index rfl rfl (by first | exact Rd.stays (by assumption) | exact Rd.owned 0 rfl | exact Rd.owned 1 rfl | exact Rd.owned 2 rfl | exact Rd.owned 3 rfl) rfl (by assumption)) rfl ?_)
            (first | refine G.v (rv_loadW 0 rfl rfl rfl) rfl ?_ | refine G.v (rv_loadW 1 rfl rfl rfl) rfl ?_ | refine G.v (rv_loadW 2 rfl rfl rfl) rfl ?_ | refine G.v (rv_loadW 3 rfl rfl rfl) rfl ?_ | refine G.v (rv_loadEW rfl (by first | exact Rd.stays (by assumption) | exact Rd.owned 0 rfl | exact Rd.owned 1 rfl | exact Rd.owned 2 rfl | exact Rd.owned 3 rfl) (by assumption) rfl) rfl ?_ | refine G.v (rv_loadS 0 rfl rfl rfl rfl) rfl ?_ | refine G.v (rv_loadS 1 rfl rfl rfl rfl) rfl ?_ | refine G.v (rv_loadS 2 rfl rfl rfl rfl) rfl ?_ | refine G.v (rv_loadS 3 rfl rfl rfl rfl) rfl ?_ | refine G.v (rv_loadES rfl (by first | exact Rd.stays (by assumption) | exact Rd.owned 0 rfl | exact Rd.owned 1 rfl | exact Rd.owned 2 rfl | exact Rd.owned 3 rfl) (by assumption) rfl rfl) rfl ?_)
            refine G.op (og_alloc) rfl (fun b _ => ?_)
            (first | refine G.op0 (og_store 0 rfl rfl rfl rfl rfl rfl rfl rfl) (fun _ _ => ?_) | refine G.op0 (og_store 1 rfl rfl rfl rfl rfl rfl rfl rfl) (fun _ _ => ?_) | refine G.op0 (og_store 2 rfl rfl rfl rfl rfl rfl rfl rfl) (fun _ _ => ?_) | refine G.op0 (og_store 3 rfl rfl rfl rfl rfl rfl rfl rfl) (fun _ _ => ?_) | refine G.op0 (og_storeE 0 rfl rfl rfl (by assumption) rfl rfl rfl rfl rfl) (fun _ _ => ?_) | refine G.op0 (og_storeE 1 rfl rfl rfl (by assumption) rfl rfl rfl rfl rfl) (fun _ _ => ?_) | refine G.op0 (og_storeE 2 rfl rfl rfl (by assumption) rfl rfl rfl rfl rfl) (fun _ _ => ?_) | refine G.op0 (og_storeE 3 rfl rfl rfl (by assumption) rfl rfl rfl rfl rfl) (fun _ _ => ?_))
            refine G.done ?_
            refine G.thenN ?_
            refine G.seq ?_
            refine G.region ?_
            (first | refine G.v (rv_field rfl) rfl ?_ | refine G.v (rv_fieldE rfl) rfl ?_)
            (first | refine G.v (rv_load1 0 rfl rfl rfl) rfl ?_ | refine G.v (rv_load1 1 rfl rfl rfl) rfl ?_ | refine G.v (rv_load1 2 rfl rfl rfl) rfl ?_ | refine G.v (rv_load1 3 rfl rfl rfl) rfl ?_ | refine G.v (rv_loadE rfl (by first | exact Rd.stays (by assumption) | exact Rd.owned 0 rfl | exact Rd.owned 1 rfl | exact Rd.owned 2 rfl | exact Rd.owned 3 rfl) (by assumption) rfl) rfl ?_)
            refine G.v (rv_move rfl) rfl ?_
            (first | refine G.v (rv_indexH rfl rfl (by first | exact Rd.stays (by assumption) | exact Rd.owned 0 rfl | exact Rd.owned 1 rfl | exact Rd.owned 2 rfl | exact Rd.owned 3 rfl) rfl (by assumption)) rfl ?_ | refine G.v (rv_index rfl rfl (by first | exact Rd.stays (by assumption) | exact Rd.owned 0 rfl | exact Rd.owned 1 rfl | exact Rd.owned 2 rfl | exact Rd.owned 3 rfl) rfl (by assumption)) rfl ?_)
            (first | refine G.v (rv_loadW 0 rfl rfl rfl) rfl ?_ | refine G.v (rv_loadW 1 rfl rfl rfl) rfl ?_ | refine G.v (rv_loadW 2 rfl rfl rfl) rfl ?_ | refine G.v (rv_loadW 3 rfl rfl rfl) rfl ?_ | refine G.v (rv_loadEW rfl (by first | exact Rd.stays (by assumption) | exact Rd.owned 0 rfl | exact Rd.owned 1 rfl | exact Rd.owned 2 rfl | exact Rd.owned 3 rfl) (by assumption) rfl) rfl ?_ | refine G.v (rv_loadS 0 rfl rfl rfl rfl) rfl ?_ | refine G.v (rv_loadS 1 rfl rfl rfl rfl) rfl ?_ | refine G.v (rv_loadS 2 rfl rfl rfl rfl) rfl ?_ | refine G.v (rv_loadS 3 rfl rfl rfl rfl) rfl ?_ | refine G.v (rv_loadES rfl (by first | exact Rd.stays (by assumption) | exact Rd.owned 0 rfl | exact Rd.owned 1 rfl | exact Rd.owned 2 rfl | exact Rd.owned 3 rfl) (by assumption) rfl rfl) rfl ?_)
            refine G.op (og_callV rfl rfl (fun w hh => l13Carton_any _ w (Rd.stays (hs.at hb) _ hh))) rfl (fun _ _ => ?_)
            refine G.v (rv_not rfl) rfl ?_
            refine G.v (rv_move rfl) rfl ?_
            all_goals (((with_reducible refine G.gP rfl rfl (fun hg => ?_) (fun hg => ?_)) <;> (try exact Bool.noConfusion hg) <;> (first | (refine G.gY rfl rfl ?_; (first | refine G.v (rv_field rfl) rfl ?_ | refine G.v (rv_fieldE rfl) rfl ?_)) | refine G.gN rfl rfl rfl ?_ | refine G.gU rfl rfl rfl ?_)))
            all_goals ((first | (refine G.gY rfl rfl ?_; (first | refine G.v (rv_load1 0 rfl rfl rfl) rfl ?_ | refine G.v (rv_load1 1 rfl rfl rfl) rfl ?_ | refine G.v (rv_load1 2 rfl rfl rfl) rfl ?_ | refine G.v (rv_load1 3 rfl rfl rfl) rfl ?_ | refine G.v (rv_loadE rfl (by first | exact Rd.stays (by assumption) | exact Rd.owned 0 rfl | exact Rd.owned 1 rfl | exact Rd.owned 2 rfl | exact Rd.owned 3 rfl) (by assumption) rfl) rfl ?_)) | refine G.gN rfl rfl rfl ?_ | refine G.gU rfl rfl rfl ?_))
            all_goals ((first | (refine G.gY rfl rfl ?_; refine G.op (og_callV rfl rfl (fun w _ => l1In_any _ _ _ w)) rfl (fun _ _ => ?_)) | refine G.gN rfl rfl rfl ?_ | refine G.gU rfl rfl rfl ?_))
            all_goals ((first | (refine G.gY rfl rfl ?_; refine G.v (rv_not rfl) rfl ?_) | refine G.gN rfl rfl rfl ?_ | refine G.gU rfl rfl rfl ?_))
            all_goals ((first | refine G.v (rv_pickT rfl rfl) rfl ?_ | refine G.v (rv_pickF rfl rfl) rfl ?_))
            all_goals (refine G.v (rv_move rfl) rfl ?_)
            all_goals (((with_reducible refine G.gP rfl rfl (fun hg => ?_) (fun hg => ?_)) <;> (try exact Bool.noConfusion hg) <;> (first | (refine G.gY rfl rfl ?_; (first | refine G.v (rv_field rfl) rfl ?_ | refine G.v (rv_fieldE rfl) rfl ?_)) | refine G.gN rfl rfl rfl ?_ | refine G.gU rfl rfl rfl ?_)))
            all_goals ((first | (refine G.gY rfl rfl ?_; (first | refine G.v (rv_load1 0 rfl rfl rfl) rfl ?_ | refine G.v (rv_load1 1 rfl rfl rfl) rfl ?_ | refine G.v (rv_load1 2 rfl rfl rfl) rfl ?_ | refine G.v (rv_load1 3 rfl rfl rfl) rfl ?_ | refine G.v (rv_loadE rfl (by first | exact Rd.stays (by assumption) | exact Rd.owned 0 rfl | exact Rd.owned 1 rfl | exact Rd.owned 2 rfl | exact Rd.owned 3 rfl) (by assumption) rfl) rfl ?_)) | refine G.gN rfl rfl rfl ?_ | refine G.gU rfl rfl rfl ?_))
            all_goals ((first | (refine G.gY rfl rfl ?_; refine G.op (og_callV rfl rfl (fun w _ => l1In_any _ _ _ w)) rfl (fun _ _ => ?_)) | refine G.gN rfl rfl rfl ?_ | refine G.gU rfl rfl rfl ?_))
            all_goals ((first | (refine G.gY rfl rfl ?_; refine G.v (rv_not rfl) rfl ?_) | refine G.gN rfl rfl rfl ?_ | refine G.gU rfl rfl rfl ?_))
            all_goals ((first | refine G.v (rv_pickT rfl rfl) rfl ?_ | refine G.v (rv_pickF rfl rfl) rfl ?_))
            all_goals (refine G.v (rv_move rfl) rfl ?_)
            all_goals (((with_reducible refine G.gP rfl rfl (fun hg => ?_) (fun hg => ?_)) <;> (try exact Bool.noConfusion hg) <;> (first | (refine G.gY rfl rfl ?_; (first | refine G.v (rv_field rfl) rfl ?_ | refine G.v (rv_fieldE rfl) rfl ?_)) | refine G.gN rfl rfl rfl ?_ | refine G.gU rfl rfl rfl ?_)))
            all_goals ((first | (refine G.gY rfl rfl ?_; (first | refine G.v (rv_load1 0 rfl rfl rfl) rfl ?_ | refine G.v (rv_load1 1 rfl rfl rfl) rfl ?_ | refine G.v (rv_load1 2 rfl rfl rfl) rfl ?_ | refine G.v (rv_load1 3 rfl rfl rfl) rfl ?_ | refine G.v (rv_loadE rfl (by first | exact Rd.stays (by assumption) | exact Rd.owned 0 rfl | exact Rd.owned 1 rfl | exact Rd.owned 2 rfl | exact Rd.owned 3 rfl) (by assumption) rfl) rfl ?_)) | refine G.gN rfl rfl rfl ?_ | refine G.gU rfl rfl rfl ?_))
            all_goals ((first | (refine G.gY rfl rfl ?_; refine G.op (og_callV rfl rfl (fun w _ => l1In_any _ _ _ w)) rfl (fun _ _ => ?_)) | refine G.gN rfl rfl rfl ?_ | refine G.gU rfl rfl rfl ?_))
            all_goals ((first | (refine G.gY rfl rfl ?_; refine G.v (rv_not rfl) rfl ?_) | refine G.gN rfl rfl rfl ?_ | refine G.gU rfl rfl rfl ?_))
            all_goals ((first | refine G.v (rv_pickT rfl rfl) rfl ?_ | refine G.v (rv_pickF rfl rfl) rfl ?_))
            all_goals (refine G.v (rv_move rfl) rfl ?_)
            all_goals (((with_reducible refine G.gP rfl rfl (fun hg => ?_) (fun hg => ?_)) <;> (try exact Bool.noConfusion hg) <;> (first | (refine G.gY rfl rfl ?_; (first | refine G.v (rv_field rfl) rfl ?_ | refine G.v (rv_fieldE rfl) rfl ?_)) | refine G.gN rfl rfl rfl ?_ | refine G.gU rfl rfl rfl ?_)))
            all_goals ((first | (refine G.gY rfl rfl ?_; (first | refine G.v (rv_load1 0 rfl rfl rfl) rfl ?_ | refine G.v (rv_load1 1 rfl rfl rfl) rfl ?_ | refine G.v (rv_load1 2 rfl rfl rfl) rfl ?_ | refine G.v (rv_load1 3 rfl rfl rfl) rfl ?_ | refine G.v (rv_loadE rfl (by first | exact Rd.stays (by assumption) | exact Rd.owned 0 rfl | exact Rd.owned 1 rfl | exact Rd.owned 2 rfl | exact Rd.owned 3 rfl) (by assumption) rfl) rfl ?_)) | refine G.gN rfl rfl rfl ?_ | refine G.gU rfl rfl rfl ?_))
            all_goals ((first | (refine G.gY rfl rfl ?_; refine G.op (og_callV rfl rfl (fun w _ => l1In_any _ _ _ w)) rfl (fun _ _ => ?_)) | refine G.gN rfl rfl rfl ?_ | refine G.gU rfl rfl rfl ?_))
            all_goals ((first | (refine G.gY rfl rfl ?_; refine G.v (rv_not rfl) rfl ?_) | refine G.gN rfl rfl rfl ?_ | refine G.gU rfl rfl rfl ?_))
            all_goals ((first | refine G.v (rv_pickT rfl rfl) rfl ?_ | refine G.v (rv_pickF rfl rfl) rfl ?_))
            all_goals
             refine G.done ?_
             refine G.thenN ?_
             refine G.cond rfl (fun hc => ?_) (fun hc => ?_)
             · try exact Bool.noConfusion hc
               all_goals
                try replace hc := of_decide_eq_true hc
                try (exfalso; first | contradiction | omega)
                all_goals
                 refine G.seq ?_
                 refine G.region ?_
                 refine G.v (rv_assign rfl) rfl ?_
                 refine G.done ?_
                 refine G.thenN ?_
                 refine G.ret ?_
                 refine G.inR ?_
                 refine G.thenR ?_
                 refine G.thenR ?_
                 refine G.inR ?_
                 refine G.thenR ?_
                 first | exact G.retFV rfl rfl (congrArg Value.bool (planOk_yes ht hk hlt hlen (by omega))) | exact G.retFV rfl rfl (congrArg Value.bool (planOk_elt hlt (by rw [hpa, Bool.eq_false_iff]; (intro hh; simp_all; done)))) | exact G.retFV rfl rfl (congrArg Value.bool (planOk_many (by omega))) | exact G.retFV rfl rfl (congrArg Value.bool (planOk_len (by have := of_decide_eq_true hg; omega)))
             · try exact Bool.noConfusion hc
               all_goals
                try replace hc := of_decide_eq_false hc
                try (exfalso; first | contradiction | omega)
                all_goals
                 refine G.skip ?_
                 refine G.inN ?_
                 refine G.thenN ?_
                 refine G.region ?_
                 refine G.v (rv_move rfl) rfl ?_
                 (first | refine G.v (rv_incr rfl rfl (by omega)) rfl ?_ | refine G.v (rv_addB rfl rfl (by omega) (by omega)) rfl ?_)
                 refine G.v (rv_assign rfl) rfl ?_
                 refine G.done ?_
                 first | refine G.backK (k + 1) 0 rfl (.cons rfl (.nil)) ?_ ?_ ?_ | refine G.backK (k + 1) 1 rfl (.cons rfl (.nil)) ?_ ?_ ?_ | refine G.backK (k + 1) 2 rfl (.cons rfl (.nil)) ?_ ?_ ?_ | refine G.backK (k + 1) 3 rfl (.cons rfl (.nil)) ?_ ?_ ?_
                 · exact ⟨rfl, trivial⟩
                 · exact ⟨hlt, range_next ht (by rw [hpa]; (simp_all; done))⟩
                 · omega
        · try exact Bool.noConfusion hc
          all_goals
           try replace hc := of_decide_eq_false hc
           try (exfalso; first | contradiction | omega)
           all_goals
            refine G.exit ?_
            refine G.thenX ?_
            refine G.thenX ?_
            refine G.inX ?_
            refine G.thenN ?_
            refine G.seq ?_
            refine G.region ?_
            refine G.v (rv_assign rfl) rfl ?_
            refine G.done ?_
            refine G.thenN ?_
            refine G.ret ?_
            first | exact G.retFV rfl rfl (congrArg Value.bool (planOk_yes ht hk hlt hlen (by omega))) | exact G.retFV rfl rfl (congrArg Value.bool (planOk_elt hlt (by rw [hpa, Bool.eq_false_iff]; (intro hh; simp_all; done)))) | exact G.retFV rfl rfl (congrArg Value.bool (planOk_many (by omega))) | exact G.retFV rfl rfl (congrArg Value.bool (planOk_len (by have := of_decide_eq_true hg; omega)))

theorem szPlan_any {cv sv : Value} {cs : List (CartonM × Value)} {ss : List SpotM} (left : Int) (w : World) (h : Rd w cv 3 (cs.map CartonM.cells)) (hs : Subs w CartonM.l cs) (h3 : Rd w sv 4 (ss.map SpotM.cells)) (h0 : 0 ≤ left) (h1 : left ≤ 1048576) :
    FnV Try.prog 49 [.agg [cv, sv].toArray, .int .i64 left] w (.int .i64 (szM (tot CartonM.l cs + ss.length) left)) := by
  refine FnV.of (n := 18) Try.func49 rfl rfl ?_
  refine G.seq ?_
  refine G.region ?_
  refine G.op (og_box rfl rfl) rfl (fun b _ => ?_)
  refine G.v (rv_assign rfl) rfl ?_
  refine G.done ?_
  refine G.thenN ?_
  refine G.seq ?_
  refine G.region ?_
  (first | refine G.v (rv_field rfl) rfl ?_ | refine G.v (rv_fieldE rfl) rfl ?_)
  (first | refine G.v (rv_load1 0 rfl rfl rfl) rfl ?_ | refine G.v (rv_loadE rfl (by first | exact Rd.stays (by assumption) | exact Rd.owned 0 rfl) (by assumption) rfl) rfl ?_)
  refine G.v (rv_move rfl) rfl ?_
  refine G.op (og_callV rfl rfl (fun w hh => szCartonS_any _ w (by first | exact Rd.stays (by assumption) _ hh | exact Rd.owned 0 rfl _ hh | exact Rd.owned 1 rfl _ hh | exact Rd.owned 2 rfl _ hh | exact Rd.owned 3 rfl _ hh) (by first | exact Subs.stays (by assumption) _ hh | exact Subs.owned 0 rfl _ hh | exact Subs.owned 1 rfl _ hh | exact Subs.owned 2 rfl _ hh | exact Subs.owned 3 rfl _ hh) (by (try simp only [szM] at *); omega) (by (try simp only [szM] at *); omega))) rfl (fun _ _ => ?_)
  refine G.v (rv_assign rfl) rfl ?_
  refine G.done ?_
  refine G.thenN ?_
  refine G.seq ?_
  refine G.seq ?_
  refine G.region ?_
  refine G.v (rv_move rfl) rfl ?_
  refine G.v (rv_lss rfl rfl) rfl ?_
  refine G.done ?_
  refine G.thenN ?_
  refine G.cond rfl (fun hc => ?_) (fun hc => ?_)
  · try exact Bool.noConfusion hc
    all_goals
     try replace hc := of_decide_eq_true hc
     try (exfalso; first | contradiction | omega)
     all_goals
      refine G.seq ?_
      refine G.region ?_
      refine G.v (rv_assign rfl) rfl ?_
      refine G.done ?_
      refine G.thenN ?_
      refine G.ret ?_
      refine G.thenR ?_
      exact G.retFV rfl rfl (congrArg (Value.int .i64) (by simp only [szM] at * <;> omega))
  · try exact Bool.noConfusion hc
    all_goals
     try replace hc := of_decide_eq_false hc
     try (exfalso; first | contradiction | omega)
     all_goals
      refine G.skip ?_
      refine G.thenN ?_
      refine G.seq ?_
      refine G.region ?_
      (first | refine G.v (rv_field rfl) rfl ?_ | refine G.v (rv_fieldE rfl) rfl ?_)
      (first | refine G.v (rv_load1 0 rfl rfl rfl) rfl ?_ | refine G.v (rv_loadE rfl (by first | exact Rd.stays (by assumption) | exact Rd.owned 0 rfl) (by assumption) rfl) rfl ?_)
      refine G.v (rv_move rfl) rfl ?_
      refine G.op (og_callV rfl rfl (fun w hh => szSpotS_any _ w (by first | exact Rd.stays (by assumption) _ hh | exact Rd.owned 0 rfl _ hh | exact Rd.owned 1 rfl _ hh | exact Rd.owned 2 rfl _ hh | exact Rd.owned 3 rfl _ hh) (by (try simp only [szM] at *); omega) (by (try simp only [szM] at *); omega))) rfl (fun _ _ => ?_)
      refine G.v (rv_assign rfl) rfl ?_
      refine G.done ?_
      refine G.thenN ?_
      refine G.seq ?_
      refine G.seq ?_
      refine G.region ?_
      refine G.v (rv_move rfl) rfl ?_
      refine G.v (rv_lss rfl rfl) rfl ?_
      refine G.done ?_
      refine G.thenN ?_
      refine G.cond rfl (fun hc => ?_) (fun hc => ?_)
      · try exact Bool.noConfusion hc
        all_goals
         try replace hc := of_decide_eq_true hc
         try (exfalso; first | contradiction | omega)
         all_goals
          refine G.seq ?_
          refine G.region ?_
          refine G.v (rv_assign rfl) rfl ?_
          refine G.done ?_
          refine G.thenN ?_
          refine G.ret ?_
          refine G.thenR ?_
          exact G.retFV rfl rfl (congrArg (Value.int .i64) (by simp only [szM] at * <;> omega))
      · try exact Bool.noConfusion hc
        all_goals
         try replace hc := of_decide_eq_false hc
         try (exfalso; first | contradiction | omega)
         all_goals
          refine G.skip ?_
          refine G.thenN ?_
          refine G.seq ?_
          refine G.region ?_
          refine G.v (rv_move rfl) rfl ?_
          refine G.v (rv_assign rfl) rfl ?_
          refine G.done ?_
          refine G.thenN ?_
          refine G.ret ?_
          exact G.retFV rfl rfl (congrArg (Value.int .i64) (by simp only [szM] at * <;> omega))
theorem toPlan_any {cv sv : Value} {cs : List (CartonM × Value)} {ss : List SpotM} (w : World) (h : Rd w cv 3 (cs.map CartonM.cells)) (hs : Subs w CartonM.l cs) (h3 : Rd w sv 4 (ss.map SpotM.cells)) (ht : tot CartonM.l cs ≤ 1048576) (ht2 : ss.length ≤ 1048576) :
    Fn Try.prog 51 [.agg [cv, sv].toArray] w (fun x : (Value × List (CartonM × Value)) × Value => x.1.1.oneCell' = true ∧ x.2.oneCell' = true ∧ x.1.2.map Prod.fst = cs.map Prod.fst) (fun x => .agg [x.1.1, x.2].toArray)
      (fun x => [.row x.2 29 4 (ss.map SpotM.cells), .grp 3 1 (x.1.2.map (sub CartonM.l)), .row x.1.1 125 3 (x.1.2.map CartonM.cells)]) := by
  refine Fn.of (n := 13) Try.func51 rfl rfl ?_
  refine G.seq ?_
  refine G.region ?_
  refine G.op (og_box rfl rfl) rfl (fun b _ => ?_)
  refine G.op (og_alloc) rfl (fun b _ => ?_)
  refine G.done ?_
  refine G.thenN ?_
  refine G.seq ?_
  refine G.region ?_
  refine G.op (og_alloc) rfl (fun b _ => ?_)
  refine G.done ?_
  refine G.thenN ?_
  refine G.seq ?_
  refine G.region ?_
  (first | refine G.v (rv_field rfl) rfl ?_ | refine G.v (rv_fieldE rfl) rfl ?_)
  (first | refine G.v (rv_load1 0 rfl rfl rfl) rfl ?_ | refine G.v (rv_load1 1 rfl rfl rfl) rfl ?_ | refine G.v (rv_load1 2 rfl rfl rfl) rfl ?_ | refine G.v (rv_load1 3 rfl rfl rfl) rfl ?_ | refine G.v (rv_load1 4 rfl rfl rfl) rfl ?_ | refine G.v (rv_load1 5 rfl rfl rfl) rfl ?_ | refine G.v (rv_loadE rfl (by first | exact Rd.stays (by assumption) | exact Rd.owned 0 rfl | exact Rd.owned 1 rfl | exact Rd.owned 2 rfl | exact Rd.owned 3 rfl | exact Rd.owned 4 rfl | exact Rd.owned 5 rfl) (by assumption) rfl) rfl ?_)
  (refine G.op (og_callF rfl rfl (fun w hh => toCartonS_any w (Rd.stays h _ hh) (Subs.stays hs _ hh) ht)) rfl ?_; rintro ⟨cv2, cs2⟩ ⟨hov, hvl⟩)
  (first | refine G.v (rv_field rfl) rfl ?_ | refine G.v (rv_fieldE rfl) rfl ?_)
  (first | refine G.op0 (og_store 0 rfl rfl rfl (cells_one (by first | rfl | assumption)) rfl (by repeat (first | rfl | refine one_cons (by first | rfl | assumption) ?_)) rfl rfl) (fun _ _ => ?_) | refine G.op0 (og_store 1 rfl rfl rfl (cells_one (by first | rfl | assumption)) rfl (by repeat (first | rfl | refine one_cons (by first | rfl | assumption) ?_)) rfl rfl) (fun _ _ => ?_) | refine G.op0 (og_store 2 rfl rfl rfl (cells_one (by first | rfl | assumption)) rfl (by repeat (first | rfl | refine one_cons (by first | rfl | assumption) ?_)) rfl rfl) (fun _ _ => ?_) | refine G.op0 (og_store 3 rfl rfl rfl (cells_one (by first | rfl | assumption)) rfl (by repeat (first | rfl | refine one_cons (by first | rfl | assumption) ?_)) rfl rfl) (fun _ _ => ?_) | refine G.op0 (og_store 4 rfl rfl rfl (cells_one (by first | rfl | assumption)) rfl (by repeat (first | rfl | refine one_cons (by first | rfl | assumption) ?_)) rfl rfl) (fun _ _ => ?_) | refine G.op0 (og_store 5 rfl rfl rfl (cells_one (by first | rfl | assumption)) rfl (by repeat (first | rfl | refine one_cons (by first | rfl | assumption) ?_)) rfl rfl) (fun _ _ => ?_) | refine G.op0 (og_storeE 0 rfl rfl rfl (by assumption) (cells_one (by first | rfl | assumption)) rfl (by repeat (first | rfl | refine one_cons (by first | rfl | assumption) ?_)) rfl rfl) (fun _ _ => ?_) | refine G.op0 (og_storeE 1 rfl rfl rfl (by assumption) (cells_one (by first | rfl | assumption)) rfl (by repeat (first | rfl | refine one_cons (by first | rfl | assumption) ?_)) rfl rfl) (fun _ _ => ?_) | refine G.op0 (og_storeE 2 rfl rfl rfl (by assumption) (cells_one (by first | rfl | assumption)) rfl (by repeat (first | rfl | refine one_cons (by first | rfl | assumption) ?_)) rfl rfl) (fun _ _ => ?_) | refine G.op0 (og_storeE 3 rfl rfl rfl (by assumption) (cells_one (by first | rfl | assumption)) rfl (by repeat (first | rfl | refine one_cons (by first | rfl | assumption) ?_)) rfl rfl) (fun _ _ => ?_) | refine G.op0 (og_storeE 4 rfl rfl rfl (by assumption) (cells_one (by first | rfl | assumption)) rfl (by repeat (first | rfl | refine one_cons (by first | rfl | assumption) ?_)) rfl rfl) (fun _ _ => ?_) | refine G.op0 (og_storeE 5 rfl rfl rfl (by assumption) (cells_one (by first | rfl | assumption)) rfl (by repeat (first | rfl | refine one_cons (by first | rfl | assumption) ?_)) rfl rfl) (fun _ _ => ?_))
  refine G.done ?_
  refine G.thenN ?_
  refine G.seq ?_
  refine G.region ?_
  (first | refine G.v (rv_field rfl) rfl ?_ | refine G.v (rv_fieldE rfl) rfl ?_)
  (first | refine G.v (rv_load1 0 rfl rfl rfl) rfl ?_ | refine G.v (rv_load1 1 rfl rfl rfl) rfl ?_ | refine G.v (rv_load1 2 rfl rfl rfl) rfl ?_ | refine G.v (rv_load1 3 rfl rfl rfl) rfl ?_ | refine G.v (rv_load1 4 rfl rfl rfl) rfl ?_ | refine G.v (rv_load1 5 rfl rfl rfl) rfl ?_ | refine G.v (rv_loadE rfl (by first | exact Rd.stays (by assumption) | exact Rd.owned 0 rfl | exact Rd.owned 1 rfl | exact Rd.owned 2 rfl | exact Rd.owned 3 rfl | exact Rd.owned 4 rfl | exact Rd.owned 5 rfl) (by assumption) rfl) rfl ?_)
  (refine G.op (og_callF rfl rfl (fun w hh => toSpotS_any w (Rd.stays h3 _ hh) ht2)) rfl ?_; rintro sv2 hov2)
  (first | refine G.v (rv_field rfl) rfl ?_ | refine G.v (rv_fieldE rfl) rfl ?_)
  (first | refine G.op0 (og_store 0 rfl rfl rfl (cells_one (by first | rfl | assumption)) rfl (by repeat (first | rfl | refine one_cons (by first | rfl | assumption) ?_)) rfl rfl) (fun _ _ => ?_) | refine G.op0 (og_store 1 rfl rfl rfl (cells_one (by first | rfl | assumption)) rfl (by repeat (first | rfl | refine one_cons (by first | rfl | assumption) ?_)) rfl rfl) (fun _ _ => ?_) | refine G.op0 (og_store 2 rfl rfl rfl (cells_one (by first | rfl | assumption)) rfl (by repeat (first | rfl | refine one_cons (by first | rfl | assumption) ?_)) rfl rfl) (fun _ _ => ?_) | refine G.op0 (og_store 3 rfl rfl rfl (cells_one (by first | rfl | assumption)) rfl (by repeat (first | rfl | refine one_cons (by first | rfl | assumption) ?_)) rfl rfl) (fun _ _ => ?_) | refine G.op0 (og_store 4 rfl rfl rfl (cells_one (by first | rfl | assumption)) rfl (by repeat (first | rfl | refine one_cons (by first | rfl | assumption) ?_)) rfl rfl) (fun _ _ => ?_) | refine G.op0 (og_store 5 rfl rfl rfl (cells_one (by first | rfl | assumption)) rfl (by repeat (first | rfl | refine one_cons (by first | rfl | assumption) ?_)) rfl rfl) (fun _ _ => ?_) | refine G.op0 (og_storeE 0 rfl rfl rfl (by assumption) (cells_one (by first | rfl | assumption)) rfl (by repeat (first | rfl | refine one_cons (by first | rfl | assumption) ?_)) rfl rfl) (fun _ _ => ?_) | refine G.op0 (og_storeE 1 rfl rfl rfl (by assumption) (cells_one (by first | rfl | assumption)) rfl (by repeat (first | rfl | refine one_cons (by first | rfl | assumption) ?_)) rfl rfl) (fun _ _ => ?_) | refine G.op0 (og_storeE 2 rfl rfl rfl (by assumption) (cells_one (by first | rfl | assumption)) rfl (by repeat (first | rfl | refine one_cons (by first | rfl | assumption) ?_)) rfl rfl) (fun _ _ => ?_) | refine G.op0 (og_storeE 3 rfl rfl rfl (by assumption) (cells_one (by first | rfl | assumption)) rfl (by repeat (first | rfl | refine one_cons (by first | rfl | assumption) ?_)) rfl rfl) (fun _ _ => ?_) | refine G.op0 (og_storeE 4 rfl rfl rfl (by assumption) (cells_one (by first | rfl | assumption)) rfl (by repeat (first | rfl | refine one_cons (by first | rfl | assumption) ?_)) rfl rfl) (fun _ _ => ?_) | refine G.op0 (og_storeE 5 rfl rfl rfl (by assumption) (cells_one (by first | rfl | assumption)) rfl (by repeat (first | rfl | refine one_cons (by first | rfl | assumption) ?_)) rfl rfl) (fun _ _ => ?_))
  refine G.done ?_
  refine G.thenN ?_
  refine G.seq ?_
  refine G.region ?_
  (first | refine G.v (rv_loadW 0 rfl rfl rfl) rfl ?_ | refine G.v (rv_loadW 1 rfl rfl rfl) rfl ?_ | refine G.v (rv_loadW 2 rfl rfl rfl) rfl ?_ | refine G.v (rv_loadW 3 rfl rfl rfl) rfl ?_ | refine G.v (rv_loadW 4 rfl rfl rfl) rfl ?_ | refine G.v (rv_loadW 5 rfl rfl rfl) rfl ?_ | refine G.v (rv_loadEW rfl (by first | exact Rd.stays (by assumption) | exact Rd.owned 0 rfl | exact Rd.owned 1 rfl | exact Rd.owned 2 rfl | exact Rd.owned 3 rfl | exact Rd.owned 4 rfl | exact Rd.owned 5 rfl) (by assumption) rfl) rfl ?_ | refine G.v (rv_loadS 0 rfl rfl rfl rfl) rfl ?_ | refine G.v (rv_loadS 1 rfl rfl rfl rfl) rfl ?_ | refine G.v (rv_loadS 2 rfl rfl rfl rfl) rfl ?_ | refine G.v (rv_loadS 3 rfl rfl rfl rfl) rfl ?_ | refine G.v (rv_loadS 4 rfl rfl rfl rfl) rfl ?_ | refine G.v (rv_loadS 5 rfl rfl rfl rfl) rfl ?_ | refine G.v (rv_loadES rfl (by first | exact Rd.stays (by assumption) | exact Rd.owned 0 rfl | exact Rd.owned 1 rfl | exact Rd.owned 2 rfl | exact Rd.owned 3 rfl | exact Rd.owned 4 rfl | exact Rd.owned 5 rfl) (by assumption) rfl rfl) rfl ?_)
  (first | refine G.op0 (og_store 0 rfl rfl rfl rfl rfl (by repeat (first | rfl | refine one_cons (by first | rfl | assumption) ?_)) rfl rfl) (fun _ _ => ?_) | refine G.op0 (og_store 1 rfl rfl rfl rfl rfl (by repeat (first | rfl | refine one_cons (by first | rfl | assumption) ?_)) rfl rfl) (fun _ _ => ?_) | refine G.op0 (og_store 2 rfl rfl rfl rfl rfl (by repeat (first | rfl | refine one_cons (by first | rfl | assumption) ?_)) rfl rfl) (fun _ _ => ?_) | refine G.op0 (og_store 3 rfl rfl rfl rfl rfl (by repeat (first | rfl | refine one_cons (by first | rfl | assumption) ?_)) rfl rfl) (fun _ _ => ?_) | refine G.op0 (og_store 4 rfl rfl rfl rfl rfl (by repeat (first | rfl | refine one_cons (by first | rfl | assumption) ?_)) rfl rfl) (fun _ _ => ?_) | refine G.op0 (og_store 5 rfl rfl rfl rfl rfl (by repeat (first | rfl | refine one_cons (by first | rfl | assumption) ?_)) rfl rfl) (fun _ _ => ?_) | refine G.op0 (og_storeE 0 rfl rfl rfl (by assumption) rfl rfl (by repeat (first | rfl | refine one_cons (by first | rfl | assumption) ?_)) rfl rfl) (fun _ _ => ?_) | refine G.op0 (og_storeE 1 rfl rfl rfl (by assumption) rfl rfl (by repeat (first | rfl | refine one_cons (by first | rfl | assumption) ?_)) rfl rfl) (fun _ _ => ?_) | refine G.op0 (og_storeE 2 rfl rfl rfl (by assumption) rfl rfl (by repeat (first | rfl | refine one_cons (by first | rfl | assumption) ?_)) rfl rfl) (fun _ _ => ?_) | refine G.op0 (og_storeE 3 rfl rfl rfl (by assumption) rfl rfl (by repeat (first | rfl | refine one_cons (by first | rfl | assumption) ?_)) rfl rfl) (fun _ _ => ?_) | refine G.op0 (og_storeE 4 rfl rfl rfl (by assumption) rfl rfl (by repeat (first | rfl | refine one_cons (by first | rfl | assumption) ?_)) rfl rfl) (fun _ _ => ?_) | refine G.op0 (og_storeE 5 rfl rfl rfl (by assumption) rfl rfl (by repeat (first | rfl | refine one_cons (by first | rfl | assumption) ?_)) rfl rfl) (fun _ _ => ?_))
  refine G.done ?_
  refine G.thenN ?_
  refine G.ret ?_
  exact G.retFc ((cv2, cs2), sv2) ⟨hov, hov2, hvl⟩ 4 rfl rfl rfl rfl rfl (fun w hh => hh.pick [0, 0, 0] rfl)
theorem eqPlan_any {cv sv cv' sv' : Value} {cs cs' : List (CartonM × Value)} {ss ss' : List SpotM} (w : World) (h : Rd w cv 3 (cs.map CartonM.cells)) (hs : Subs w CartonM.l cs) (h3 : Rd w sv 4 (ss.map SpotM.cells))
    (h' : Rd w cv' 3 (cs'.map CartonM.cells)) (hs' : Subs w CartonM.l cs') (h3' : Rd w sv' 4 (ss'.map SpotM.cells)) :
    FnV Try.prog 53 [.agg [cv, sv].toArray, .agg [cv', sv'].toArray] w (.bool (decide (cs.map Prod.fst = cs'.map Prod.fst) && decide (ss = ss'))) := by
  refine FnV.of (n := 17) Try.func53 rfl rfl ?_
  refine G.seq ?_
  refine G.region ?_
  refine G.op (og_box rfl rfl) rfl (fun b _ => ?_)
  refine G.op (og_box rfl rfl) rfl (fun b _ => ?_)
  refine G.v (rv_assign rfl) rfl ?_
  refine G.done ?_
  refine G.thenN ?_
  refine G.seq ?_
  refine G.seq ?_
  refine G.region ?_
  (first | refine G.v (rv_field rfl) rfl ?_ | refine G.v (rv_fieldE rfl) rfl ?_)
  (first | refine G.v (rv_load1 0 rfl rfl rfl) rfl ?_ | refine G.v (rv_load1 1 rfl rfl rfl) rfl ?_ | refine G.v (rv_loadE rfl (by first | exact Rd.stays (by assumption) | exact Rd.owned 0 rfl | exact Rd.owned 1 rfl) (by assumption) rfl) rfl ?_)
  (first | refine G.v (rv_field rfl) rfl ?_ | refine G.v (rv_fieldE rfl) rfl ?_)
  (first | refine G.v (rv_load1 0 rfl rfl rfl) rfl ?_ | refine G.v (rv_load1 1 rfl rfl rfl) rfl ?_ | refine G.v (rv_loadE rfl (by first | exact Rd.stays (by assumption) | exact Rd.owned 0 rfl | exact Rd.owned 1 rfl) (by assumption) rfl) rfl ?_)
  refine G.op (og_callV rfl rfl (fun w hh => eqCartonS_any w (Rd.stays h _ hh) (Subs.stays hs _ hh) (Rd.stays h' _ hh) (Subs.stays hs' _ hh))) rfl (fun _ _ => ?_)
  refine G.v (rv_not rfl) rfl ?_
  refine G.done ?_
  refine G.thenN ?_
  refine G.cond rfl (fun hc => ?_) (fun hc => ?_)
  · try exact Bool.noConfusion hc
    all_goals
     try replace hc := of_decide_eq_true hc
     try (exfalso; first | contradiction | omega)
     all_goals
      refine G.seq ?_
      refine G.region ?_
      refine G.v (rv_assign rfl) rfl ?_
      refine G.done ?_
      refine G.thenN ?_
      refine G.ret ?_
      refine G.thenR ?_
      refine G.retFV rfl rfl (congrArg Value.bool ?_); simp_all
  · try exact Bool.noConfusion hc
    all_goals
     try replace hc := of_decide_eq_false hc
     try (exfalso; first | contradiction | omega)
     all_goals
      refine G.skip ?_
      refine G.thenN ?_
      refine G.seq ?_
      refine G.seq ?_
      refine G.region ?_
      (first | refine G.v (rv_field rfl) rfl ?_ | refine G.v (rv_fieldE rfl) rfl ?_)
      (first | refine G.v (rv_load1 0 rfl rfl rfl) rfl ?_ | refine G.v (rv_load1 1 rfl rfl rfl) rfl ?_ | refine G.v (rv_loadE rfl (by first | exact Rd.stays (by assumption) | exact Rd.owned 0 rfl | exact Rd.owned 1 rfl) (by assumption) rfl) rfl ?_)
      (first | refine G.v (rv_field rfl) rfl ?_ | refine G.v (rv_fieldE rfl) rfl ?_)
      (first | refine G.v (rv_load1 0 rfl rfl rfl) rfl ?_ | refine G.v (rv_load1 1 rfl rfl rfl) rfl ?_ | refine G.v (rv_loadE rfl (by first | exact Rd.stays (by assumption) | exact Rd.owned 0 rfl | exact Rd.owned 1 rfl) (by assumption) rfl) rfl ?_)
      refine G.op (og_callV rfl rfl (fun w hh => eqSpotS_any w (Rd.stays h3 _ hh) (Rd.stays h3' _ hh))) rfl (fun _ _ => ?_)
      refine G.v (rv_not rfl) rfl ?_
      refine G.done ?_
      refine G.thenN ?_
      refine G.cond rfl (fun hc => ?_) (fun hc => ?_)
      · try exact Bool.noConfusion hc
        all_goals
         try replace hc := of_decide_eq_true hc
         try (exfalso; first | contradiction | omega)
         all_goals
          refine G.seq ?_
          refine G.region ?_
          refine G.v (rv_assign rfl) rfl ?_
          refine G.done ?_
          refine G.thenN ?_
          refine G.ret ?_
          refine G.thenR ?_
          refine G.retFV rfl rfl (congrArg Value.bool ?_); simp_all
      · try exact Bool.noConfusion hc
        all_goals
         try replace hc := of_decide_eq_false hc
         try (exfalso; first | contradiction | omega)
         all_goals
          refine G.skip ?_
          refine G.thenN ?_
          refine G.seq ?_
          refine G.region ?_
          refine G.v (rv_assign rfl) rfl ?_
          refine G.done ?_
          refine G.thenN ?_
          refine G.ret ?_
          refine G.retFV rfl rfl (congrArg Value.bool ?_); simp_all
theorem fnExactPlanOk_any {cv sv : Value} {cs : List (CartonM × Value)} {ss : List SpotM} {w : World} (h : Rd w cv 3 (cs.map CartonM.cells)) (hs : Subs w CartonM.l cs) (h3 : Rd w sv 4 (ss.map SpotM.cells)) : FnV Try.prog 13 [.agg [cv, sv].toArray] w (.bool true) := by
  refine FnV.of (n := 27) Try.func13 rfl rfl ?_
  refine G.seq ?_
  refine G.region ?_
  refine G.op (og_box rfl rfl) rfl (fun b _ => ?_)
  refine G.v (rv_assign rfl) rfl ?_
  refine G.done ?_
  refine G.thenN ?_
  refine G.seq ?_
  refine G.region ?_
  refine G.v (rv_assign rfl) rfl ?_
  refine G.done ?_
  refine G.thenN ?_
  refine G.seq ?_
  refine G.region ?_
  (first | refine G.v (rv_loadW 0 rfl rfl rfl) rfl ?_ | refine G.v (rv_loadW 1 rfl rfl rfl) rfl ?_ | refine G.v (rv_loadW 2 rfl rfl rfl) rfl ?_ | refine G.v (rv_loadW 3 rfl rfl rfl) rfl ?_ | refine G.v (rv_loadW 4 rfl rfl rfl) rfl ?_ | refine G.v (rv_loadW 5 rfl rfl rfl) rfl ?_ | refine G.v (rv_loadW 6 rfl rfl rfl) rfl ?_ | refine G.v (rv_loadW 7 rfl rfl rfl) rfl ?_ | refine G.v (rv_loadW 8 rfl rfl rfl) rfl ?_ | refine G.v (rv_loadW 9 rfl rfl rfl) rfl ?_ | refine G.v (rv_loadEW rfl (by first | exact Rd.stays (by assumption) | exact Rd.owned 0 rfl | exact Rd.owned 1 rfl | exact Rd.owned 2 rfl | exact Rd.owned 3 rfl | exact Rd.owned 4 rfl | exact Rd.owned 5 rfl | exact Rd.owned 6 rfl | exact Rd.owned 7 rfl | exact Rd.owned 8 rfl | exact Rd.owned 9 rfl) (by assumption) rfl) rfl ?_ | refine G.v (rv_loadS 0 rfl rfl rfl rfl) rfl ?_ | refine G.v (rv_loadS 1 rfl rfl rfl rfl) rfl ?_ | refine G.v (rv_loadS 2 rfl rfl rfl rfl) rfl ?_ | refine G.v (rv_loadS 3 rfl rfl rfl rfl) rfl ?_ | refine G.v (rv_loadS 4 rfl rfl rfl rfl) rfl ?_ | refine G.v (rv_loadS 5 rfl rfl rfl rfl) rfl ?_ | refine G.v (rv_loadS 6 rfl rfl rfl rfl) rfl ?_ | refine G.v (rv_loadS 7 rfl rfl rfl rfl) rfl ?_ | refine G.v (rv_loadS 8 rfl rfl rfl rfl) rfl ?_ | refine G.v (rv_loadS 9 rfl rfl rfl rfl) rfl ?_ | refine G.v (rv_loadES rfl (by first | exact Rd.stays (by assumption) | exact Rd.owned 0 rfl | exact Rd.owned 1 rfl | exact Rd.owned 2 rfl | exact Rd.owned 3 rfl | exact Rd.owned 4 rfl | exact Rd.owned 5 rfl | exact Rd.owned 6 rfl | exact Rd.owned 7 rfl | exact Rd.owned 8 rfl | exact Rd.owned 9 rfl) (by assumption) rfl rfl) rfl ?_)
  refine G.v (rv_move rfl) rfl ?_
  refine G.op (og_callV rfl rfl (fun w hh => szPlan_any _ w (by first | exact Rd.stays (by assumption) _ hh | exact Rd.owned 0 rfl _ hh | exact Rd.owned 1 rfl _ hh | exact Rd.owned 2 rfl _ hh | exact Rd.owned 3 rfl _ hh) (by first | exact Subs.stays (by assumption) _ hh | exact Subs.owned 0 rfl _ hh | exact Subs.owned 1 rfl _ hh | exact Subs.owned 2 rfl _ hh | exact Subs.owned 3 rfl _ hh) (by first | exact Rd.stays (by assumption) _ hh | exact Rd.owned 0 rfl _ hh | exact Rd.owned 1 rfl _ hh | exact Rd.owned 2 rfl _ hh | exact Rd.owned 3 rfl _ hh) (by omega) (by omega))) rfl (fun _ _ => ?_)
  refine G.v (rv_assign rfl) rfl ?_
  refine G.done ?_
  refine G.thenN ?_
  refine G.seq ?_
  refine G.seq ?_
  refine G.region ?_
  refine G.v (rv_move rfl) rfl ?_
  refine G.v (rv_lss rfl rfl) rfl ?_
  refine G.done ?_
  refine G.thenN ?_
  refine G.cond rfl (fun hc => ?_) (fun hc => ?_)
  · try exact Bool.noConfusion hc
    all_goals
     try replace hc := of_decide_eq_true hc
     try (exfalso; first | contradiction | omega)
     all_goals
      refine G.seq ?_
      refine G.region ?_
      refine G.v (rv_assign rfl) rfl ?_
      refine G.done ?_
      refine G.thenN ?_
      refine G.ret ?_
      refine G.thenR ?_
      first | exact G.retFV rfl rfl rfl | (exfalso; simp_all)
  · try exact Bool.noConfusion hc
    all_goals
     try replace hc := of_decide_eq_false hc
     try (exfalso; first | contradiction | omega)
     all_goals
      refine G.skip ?_
      refine G.thenN ?_
      refine G.seq ?_
      refine G.region ?_
      (first | refine G.v (rv_loadW 0 rfl rfl rfl) rfl ?_ | refine G.v (rv_loadW 1 rfl rfl rfl) rfl ?_ | refine G.v (rv_loadW 2 rfl rfl rfl) rfl ?_ | refine G.v (rv_loadW 3 rfl rfl rfl) rfl ?_ | refine G.v (rv_loadW 4 rfl rfl rfl) rfl ?_ | refine G.v (rv_loadW 5 rfl rfl rfl) rfl ?_ | refine G.v (rv_loadW 6 rfl rfl rfl) rfl ?_ | refine G.v (rv_loadW 7 rfl rfl rfl) rfl ?_ | refine G.v (rv_loadW 8 rfl rfl rfl) rfl ?_ | refine G.v (rv_loadW 9 rfl rfl rfl) rfl ?_ | refine G.v (rv_loadEW rfl (by first | exact Rd.stays (by assumption) | exact Rd.owned 0 rfl | exact Rd.owned 1 rfl | exact Rd.owned 2 rfl | exact Rd.owned 3 rfl | exact Rd.owned 4 rfl | exact Rd.owned 5 rfl | exact Rd.owned 6 rfl | exact Rd.owned 7 rfl | exact Rd.owned 8 rfl | exact Rd.owned 9 rfl) (by assumption) rfl) rfl ?_ | refine G.v (rv_loadS 0 rfl rfl rfl rfl) rfl ?_ | refine G.v (rv_loadS 1 rfl rfl rfl rfl) rfl ?_ | refine G.v (rv_loadS 2 rfl rfl rfl rfl) rfl ?_ | refine G.v (rv_loadS 3 rfl rfl rfl rfl) rfl ?_ | refine G.v (rv_loadS 4 rfl rfl rfl rfl) rfl ?_ | refine G.v (rv_loadS 5 rfl rfl rfl rfl) rfl ?_ | refine G.v (rv_loadS 6 rfl rfl rfl rfl) rfl ?_ | refine G.v (rv_loadS 7 rfl rfl rfl rfl) rfl ?_ | refine G.v (rv_loadS 8 rfl rfl rfl rfl) rfl ?_ | refine G.v (rv_loadS 9 rfl rfl rfl rfl) rfl ?_ | refine G.v (rv_loadES rfl (by first | exact Rd.stays (by assumption) | exact Rd.owned 0 rfl | exact Rd.owned 1 rfl | exact Rd.owned 2 rfl | exact Rd.owned 3 rfl | exact Rd.owned 4 rfl | exact Rd.owned 5 rfl | exact Rd.owned 6 rfl | exact Rd.owned 7 rfl | exact Rd.owned 8 rfl | exact Rd.owned 9 rfl) (by assumption) rfl rfl) rfl ?_)
      (refine G.op (og_callF rfl rfl (fun w hh => toPlan_any w (by first | exact Rd.stays (by assumption) _ hh | exact Rd.owned 0 rfl _ hh | exact Rd.owned 1 rfl _ hh | exact Rd.owned 2 rfl _ hh | exact Rd.owned 3 rfl _ hh | exact Rd.owned 4 rfl _ hh | exact Rd.owned 5 rfl _ hh | exact Rd.owned 6 rfl _ hh | exact Rd.owned 7 rfl _ hh) (by first | exact Subs.stays (by assumption) _ hh | exact Subs.owned 0 rfl _ hh | exact Subs.owned 1 rfl _ hh | exact Subs.owned 2 rfl _ hh | exact Subs.owned 3 rfl _ hh | exact Subs.owned 4 rfl _ hh | exact Subs.owned 5 rfl _ hh | exact Subs.owned 6 rfl _ hh | exact Subs.owned 7 rfl _ hh) (by first | exact Rd.stays (by assumption) _ hh | exact Rd.owned 0 rfl _ hh | exact Rd.owned 1 rfl _ hh | exact Rd.owned 2 rfl _ hh | exact Rd.owned 3 rfl _ hh | exact Rd.owned 4 rfl _ hh | exact Rd.owned 5 rfl _ hh | exact Rd.owned 6 rfl _ hh | exact Rd.owned 7 rfl _ hh) (by (try simp only [szM] at *); omega) (by (try simp only [szM] at *); omega))) rfl ?_; rintro ⟨⟨cv2, cs2⟩, sv2⟩ ⟨hov, hov2, hvl⟩)
      refine G.op (og_callV rfl rfl (fun w hh => specPlanOk_any w (by first | exact Rd.stays (by assumption) _ hh | exact Rd.owned 0 rfl _ hh | exact Rd.owned 1 rfl _ hh | exact Rd.owned 2 rfl _ hh | exact Rd.owned 3 rfl _ hh | exact Rd.owned 4 rfl _ hh | exact Rd.owned 5 rfl _ hh | exact Rd.owned 6 rfl _ hh | exact Rd.owned 7 rfl _ hh) (by first | exact Subs.stays (by assumption) _ hh | exact Subs.owned 0 rfl _ hh | exact Subs.owned 1 rfl _ hh | exact Subs.owned 2 rfl _ hh | exact Subs.owned 3 rfl _ hh | exact Subs.owned 4 rfl _ hh | exact Subs.owned 5 rfl _ hh | exact Subs.owned 6 rfl _ hh | exact Subs.owned 7 rfl _ hh) (by first | exact Rd.stays (by assumption) _ hh | exact Rd.owned 0 rfl _ hh | exact Rd.owned 1 rfl _ hh | exact Rd.owned 2 rfl _ hh | exact Rd.owned 3 rfl _ hh | exact Rd.owned 4 rfl _ hh | exact Rd.owned 5 rfl _ hh | exact Rd.owned 6 rfl _ hh | exact Rd.owned 7 rfl _ hh))) rfl (fun _ _ => ?_)
      refine G.v (rv_assign rfl) rfl ?_
      refine G.done ?_
      refine G.thenN ?_
      refine G.seq ?_
      refine G.region ?_
      (first | refine G.v (rv_loadW 0 rfl rfl rfl) rfl ?_ | refine G.v (rv_loadW 1 rfl rfl rfl) rfl ?_ | refine G.v (rv_loadW 2 rfl rfl rfl) rfl ?_ | refine G.v (rv_loadW 3 rfl rfl rfl) rfl ?_ | refine G.v (rv_loadW 4 rfl rfl rfl) rfl ?_ | refine G.v (rv_loadW 5 rfl rfl rfl) rfl ?_ | refine G.v (rv_loadW 6 rfl rfl rfl) rfl ?_ | refine G.v (rv_loadW 7 rfl rfl rfl) rfl ?_ | refine G.v (rv_loadW 8 rfl rfl rfl) rfl ?_ | refine G.v (rv_loadW 9 rfl rfl rfl) rfl ?_ | refine G.v (rv_loadEW rfl (by first | exact Rd.stays (by assumption) | exact Rd.owned 0 rfl | exact Rd.owned 1 rfl | exact Rd.owned 2 rfl | exact Rd.owned 3 rfl | exact Rd.owned 4 rfl | exact Rd.owned 5 rfl | exact Rd.owned 6 rfl | exact Rd.owned 7 rfl | exact Rd.owned 8 rfl | exact Rd.owned 9 rfl) (by assumption) rfl) rfl ?_ | refine G.v (rv_loadS 0 rfl rfl rfl rfl) rfl ?_ | refine G.v (rv_loadS 1 rfl rfl rfl rfl) rfl ?_ | refine G.v (rv_loadS 2 rfl rfl rfl rfl) rfl ?_ | refine G.v (rv_loadS 3 rfl rfl rfl rfl) rfl ?_ | refine G.v (rv_loadS 4 rfl rfl rfl rfl) rfl ?_ | refine G.v (rv_loadS 5 rfl rfl rfl rfl) rfl ?_ | refine G.v (rv_loadS 6 rfl rfl rfl rfl) rfl ?_ | refine G.v (rv_loadS 7 rfl rfl rfl rfl) rfl ?_ | refine G.v (rv_loadS 8 rfl rfl rfl rfl) rfl ?_ | refine G.v (rv_loadS 9 rfl rfl rfl rfl) rfl ?_ | refine G.v (rv_loadES rfl (by first | exact Rd.stays (by assumption) | exact Rd.owned 0 rfl | exact Rd.owned 1 rfl | exact Rd.owned 2 rfl | exact Rd.owned 3 rfl | exact Rd.owned 4 rfl | exact Rd.owned 5 rfl | exact Rd.owned 6 rfl | exact Rd.owned 7 rfl | exact Rd.owned 8 rfl | exact Rd.owned 9 rfl) (by assumption) rfl rfl) rfl ?_)
      (refine G.op (og_callF rfl rfl (fun w hh => toPlan_any w (by first | exact Rd.stays (by assumption) _ hh | exact Rd.owned 0 rfl _ hh | exact Rd.owned 1 rfl _ hh | exact Rd.owned 2 rfl _ hh | exact Rd.owned 3 rfl _ hh | exact Rd.owned 4 rfl _ hh | exact Rd.owned 5 rfl _ hh | exact Rd.owned 6 rfl _ hh | exact Rd.owned 7 rfl _ hh) (by first | exact Subs.stays (by assumption) _ hh | exact Subs.owned 0 rfl _ hh | exact Subs.owned 1 rfl _ hh | exact Subs.owned 2 rfl _ hh | exact Subs.owned 3 rfl _ hh | exact Subs.owned 4 rfl _ hh | exact Subs.owned 5 rfl _ hh | exact Subs.owned 6 rfl _ hh | exact Subs.owned 7 rfl _ hh) (by first | exact Rd.stays (by assumption) _ hh | exact Rd.owned 0 rfl _ hh | exact Rd.owned 1 rfl _ hh | exact Rd.owned 2 rfl _ hh | exact Rd.owned 3 rfl _ hh | exact Rd.owned 4 rfl _ hh | exact Rd.owned 5 rfl _ hh | exact Rd.owned 6 rfl _ hh | exact Rd.owned 7 rfl _ hh) (by (try simp only [szM] at *); omega) (by (try simp only [szM] at *); omega))) rfl ?_; rintro ⟨⟨cv2, cs2⟩, sv2⟩ ⟨hov, hov2, hvl⟩)
      refine G.op (og_alloc) rfl (fun b _ => ?_)
      (first | refine G.op0 (og_store 0 rfl rfl rfl rfl rfl (by repeat (first | rfl | refine one_cons (by first | rfl | assumption) ?_)) rfl rfl) (fun _ _ => ?_) | refine G.op0 (og_store 1 rfl rfl rfl rfl rfl (by repeat (first | rfl | refine one_cons (by first | rfl | assumption) ?_)) rfl rfl) (fun _ _ => ?_) | refine G.op0 (og_store 2 rfl rfl rfl rfl rfl (by repeat (first | rfl | refine one_cons (by first | rfl | assumption) ?_)) rfl rfl) (fun _ _ => ?_) | refine G.op0 (og_store 3 rfl rfl rfl rfl rfl (by repeat (first | rfl | refine one_cons (by first | rfl | assumption) ?_)) rfl rfl) (fun _ _ => ?_) | refine G.op0 (og_store 4 rfl rfl rfl rfl rfl (by repeat (first | rfl | refine one_cons (by first | rfl | assumption) ?_)) rfl rfl) (fun _ _ => ?_) | refine G.op0 (og_store 5 rfl rfl rfl rfl rfl (by repeat (first | rfl | refine one_cons (by first | rfl | assumption) ?_)) rfl rfl) (fun _ _ => ?_) | refine G.op0 (og_store 6 rfl rfl rfl rfl rfl (by repeat (first | rfl | refine one_cons (by first | rfl | assumption) ?_)) rfl rfl) (fun _ _ => ?_) | refine G.op0 (og_store 7 rfl rfl rfl rfl rfl (by repeat (first | rfl | refine one_cons (by first | rfl | assumption) ?_)) rfl rfl) (fun _ _ => ?_) | refine G.op0 (og_store 8 rfl rfl rfl rfl rfl (by repeat (first | rfl | refine one_cons (by first | rfl | assumption) ?_)) rfl rfl) (fun _ _ => ?_) | refine G.op0 (og_store 9 rfl rfl rfl rfl rfl (by repeat (first | rfl | refine one_cons (by first | rfl | assumption) ?_)) rfl rfl) (fun _ _ => ?_) | refine G.op0 (og_storeE 0 rfl rfl rfl (by assumption) rfl rfl (by repeat (first | rfl | refine one_cons (by first | rfl | assumption) ?_)) rfl rfl) (fun _ _ => ?_) | refine G.op0 (og_storeE 1 rfl rfl rfl (by assumption) rfl rfl (by repeat (first | rfl | refine one_cons (by first | rfl | assumption) ?_)) rfl rfl) (fun _ _ => ?_) | refine G.op0 (og_storeE 2 rfl rfl rfl (by assumption) rfl rfl (by repeat (first | rfl | refine one_cons (by first | rfl | assumption) ?_)) rfl rfl) (fun _ _ => ?_) | refine G.op0 (og_storeE 3 rfl rfl rfl (by assumption) rfl rfl (by repeat (first | rfl | refine one_cons (by first | rfl | assumption) ?_)) rfl rfl) (fun _ _ => ?_) | refine G.op0 (og_storeE 4 rfl rfl rfl (by assumption) rfl rfl (by repeat (first | rfl | refine one_cons (by first | rfl | assumption) ?_)) rfl rfl) (fun _ _ => ?_) | refine G.op0 (og_storeE 5 rfl rfl rfl (by assumption) rfl rfl (by repeat (first | rfl | refine one_cons (by first | rfl | assumption) ?_)) rfl rfl) (fun _ _ => ?_) | refine G.op0 (og_storeE 6 rfl rfl rfl (by assumption) rfl rfl (by repeat (first | rfl | refine one_cons (by first | rfl | assumption) ?_)) rfl rfl) (fun _ _ => ?_) | refine G.op0 (og_storeE 7 rfl rfl rfl (by assumption) rfl rfl (by repeat (first | rfl | refine one_cons (by first | rfl | assumption) ?_)) rfl rfl) (fun _ _ => ?_) | refine G.op0 (og_storeE 8 rfl rfl rfl (by assumption) rfl rfl (by repeat (first | rfl | refine one_cons (by first | rfl | assumption) ?_)) rfl rfl) (fun _ _ => ?_) | refine G.op0 (og_storeE 9 rfl rfl rfl (by assumption) rfl rfl (by repeat (first | rfl | refine one_cons (by first | rfl | assumption) ?_)) rfl rfl) (fun _ _ => ?_))
      refine G.done ?_
      refine G.thenN ?_
      refine G.seq ?_
      refine G.region ?_
      (first | refine G.v (rv_loadW 0 rfl rfl rfl) rfl ?_ | refine G.v (rv_loadW 1 rfl rfl rfl) rfl ?_ | refine G.v (rv_loadW 2 rfl rfl rfl) rfl ?_ | refine G.v (rv_loadW 3 rfl rfl rfl) rfl ?_ | refine G.v (rv_loadW 4 rfl rfl rfl) rfl ?_ | refine G.v (rv_loadW 5 rfl rfl rfl) rfl ?_ | refine G.v (rv_loadW 6 rfl rfl rfl) rfl ?_ | refine G.v (rv_loadW 7 rfl rfl rfl) rfl ?_ | refine G.v (rv_loadW 8 rfl rfl rfl) rfl ?_ | refine G.v (rv_loadW 9 rfl rfl rfl) rfl ?_ | refine G.v (rv_loadEW rfl (by first | exact Rd.stays (by assumption) | exact Rd.owned 0 rfl | exact Rd.owned 1 rfl | exact Rd.owned 2 rfl | exact Rd.owned 3 rfl | exact Rd.owned 4 rfl | exact Rd.owned 5 rfl | exact Rd.owned 6 rfl | exact Rd.owned 7 rfl | exact Rd.owned 8 rfl | exact Rd.owned 9 rfl) (by assumption) rfl) rfl ?_ | refine G.v (rv_loadS 0 rfl rfl rfl rfl) rfl ?_ | refine G.v (rv_loadS 1 rfl rfl rfl rfl) rfl ?_ | refine G.v (rv_loadS 2 rfl rfl rfl rfl) rfl ?_ | refine G.v (rv_loadS 3 rfl rfl rfl rfl) rfl ?_ | refine G.v (rv_loadS 4 rfl rfl rfl rfl) rfl ?_ | refine G.v (rv_loadS 5 rfl rfl rfl rfl) rfl ?_ | refine G.v (rv_loadS 6 rfl rfl rfl rfl) rfl ?_ | refine G.v (rv_loadS 7 rfl rfl rfl rfl) rfl ?_ | refine G.v (rv_loadS 8 rfl rfl rfl rfl) rfl ?_ | refine G.v (rv_loadS 9 rfl rfl rfl rfl) rfl ?_ | refine G.v (rv_loadES rfl (by first | exact Rd.stays (by assumption) | exact Rd.owned 0 rfl | exact Rd.owned 1 rfl | exact Rd.owned 2 rfl | exact Rd.owned 3 rfl | exact Rd.owned 4 rfl | exact Rd.owned 5 rfl | exact Rd.owned 6 rfl | exact Rd.owned 7 rfl | exact Rd.owned 8 rfl | exact Rd.owned 9 rfl) (by assumption) rfl rfl) rfl ?_)
      refine G.op (og_callV rfl rfl (fun w hh => implPlanOk_any w (by first | exact Rd.stays (by assumption) _ hh | exact Rd.owned 0 rfl _ hh | exact Rd.owned 1 rfl _ hh | exact Rd.owned 2 rfl _ hh | exact Rd.owned 3 rfl _ hh | exact Rd.owned 4 rfl _ hh | exact Rd.owned 5 rfl _ hh | exact Rd.owned 6 rfl _ hh | exact Rd.owned 7 rfl _ hh) (by first | exact Subs.stays (by assumption) _ hh | exact Subs.owned 0 rfl _ hh | exact Subs.owned 1 rfl _ hh | exact Subs.owned 2 rfl _ hh | exact Subs.owned 3 rfl _ hh | exact Subs.owned 4 rfl _ hh | exact Subs.owned 5 rfl _ hh | exact Subs.owned 6 rfl _ hh | exact Subs.owned 7 rfl _ hh) (by first | exact Rd.stays (by assumption) _ hh | exact Rd.owned 0 rfl _ hh | exact Rd.owned 1 rfl _ hh | exact Rd.owned 2 rfl _ hh | exact Rd.owned 3 rfl _ hh | exact Rd.owned 4 rfl _ hh | exact Rd.owned 5 rfl _ hh | exact Rd.owned 6 rfl _ hh | exact Rd.owned 7 rfl _ hh))) rfl (fun _ _ => ?_)
      refine G.v (rv_assign rfl) rfl ?_
      refine G.done ?_
      refine G.thenN ?_
      refine G.seq ?_
      refine G.seq ?_
      refine G.region ?_
      refine G.v (rv_move rfl) rfl ?_
      refine G.v (rv_move rfl) rfl ?_
      refine G.v (rv_neqb rfl rfl) rfl ?_
      refine G.done ?_
      refine G.thenN ?_
      refine G.cond rfl (fun hc => ?_) (fun hc => ?_)
      · try exact Bool.noConfusion hc
        all_goals
         try replace hc := of_decide_eq_true hc
         try (exfalso; first | contradiction | omega)
         all_goals
          refine G.seq ?_
          refine G.region ?_
          refine G.v (rv_assign rfl) rfl ?_
          refine G.done ?_
          refine G.thenN ?_
          refine G.ret ?_
          refine G.thenR ?_
          first | exact G.retFV rfl rfl rfl | (exfalso; simp_all)
      · try exact Bool.noConfusion hc
        all_goals
         try replace hc := of_decide_eq_false hc
         try (exfalso; first | contradiction | omega)
         all_goals
          refine G.skip ?_
          refine G.thenN ?_
          refine G.seq ?_
          refine G.seq ?_
          refine G.drawL [] ?_
          (first | refine GE.q 0 rfl (by kernel_rfl) rfl (qg_runs (rv_loadW 0 rfl rfl rfl)) rfl ?_ | refine GE.q 0 rfl (by kernel_rfl) rfl (qg_runs (rv_loadW 1 rfl rfl rfl)) rfl ?_ | refine GE.q 0 rfl (by kernel_rfl) rfl (qg_runs (rv_loadW 2 rfl rfl rfl)) rfl ?_ | refine GE.q 0 rfl (by kernel_rfl) rfl (qg_runs (rv_loadW 3 rfl rfl rfl)) rfl ?_ | refine GE.q 0 rfl (by kernel_rfl) rfl (qg_runs (rv_loadW 4 rfl rfl rfl)) rfl ?_ | refine GE.q 0 rfl (by kernel_rfl) rfl (qg_runs (rv_loadW 5 rfl rfl rfl)) rfl ?_ | refine GE.q 0 rfl (by kernel_rfl) rfl (qg_runs (rv_loadW 6 rfl rfl rfl)) rfl ?_ | refine GE.q 0 rfl (by kernel_rfl) rfl (qg_runs (rv_loadW 7 rfl rfl rfl)) rfl ?_ | refine GE.q 0 rfl (by kernel_rfl) rfl (qg_runs (rv_loadW 8 rfl rfl rfl)) rfl ?_ | refine GE.q 0 rfl (by kernel_rfl) rfl (qg_runs (rv_loadW 9 rfl rfl rfl)) rfl ?_ | refine GE.q 0 rfl (by kernel_rfl) rfl (qg_runs (rv_loadEW rfl (by first | exact Rd.stays (by assumption) | exact Rd.owned 0 rfl | exact Rd.owned 1 rfl | exact Rd.owned 2 rfl | exact Rd.owned 3 rfl | exact Rd.owned 4 rfl | exact Rd.owned 5 rfl | exact Rd.owned 6 rfl | exact Rd.owned 7 rfl | exact Rd.owned 8 rfl | exact Rd.owned 9 rfl) (by assumption) rfl)) rfl ?_ | refine GE.q 0 rfl (by kernel_rfl) rfl (qg_runs (rv_loadS 0 rfl rfl rfl rfl)) rfl ?_ | refine GE.q 0 rfl (by kernel_rfl) rfl (qg_runs (rv_loadS 1 rfl rfl rfl rfl)) rfl ?_ | refine GE.q 0 rfl (by kernel_rfl) rfl (qg_runs (rv_loadS 2 rfl rfl rfl rfl)) rfl ?_ | refine GE.q 0 rfl (by kernel_rfl) rfl (qg_runs (rv_loadS 3 rfl rfl rfl rfl)) rfl ?_ | refine GE.q 0 rfl (by kernel_rfl) rfl (qg_runs (rv_loadS 4 rfl rfl rfl rfl)) rfl ?_ | refine GE.q 0 rfl (by kernel_rfl) rfl (qg_runs (rv_loadS 5 rfl rfl rfl rfl)) rfl ?_ | refine GE.q 0 rfl (by kernel_rfl) rfl (qg_runs (rv_loadS 6 rfl rfl rfl rfl)) rfl ?_ | refine GE.q 0 rfl (by kernel_rfl) rfl (qg_runs (rv_loadS 7 rfl rfl rfl rfl)) rfl ?_ | refine GE.q 0 rfl (by kernel_rfl) rfl (qg_runs (rv_loadS 8 rfl rfl rfl rfl)) rfl ?_ | refine GE.q 0 rfl (by kernel_rfl) rfl (qg_runs (rv_loadS 9 rfl rfl rfl rfl)) rfl ?_ | refine GE.q 0 rfl (by kernel_rfl) rfl (qg_runs (rv_loadES rfl (by first | exact Rd.stays (by assumption) | exact Rd.owned 0 rfl | exact Rd.owned 1 rfl | exact Rd.owned 2 rfl | exact Rd.owned 3 rfl | exact Rd.owned 4 rfl | exact Rd.owned 5 rfl | exact Rd.owned 6 rfl | exact Rd.owned 7 rfl | exact Rd.owned 8 rfl | exact Rd.owned 9 rfl) (by assumption) rfl rfl)) rfl ?_)
          (first | refine GE.q 1 rfl (by kernel_rfl) rfl (qg_runs (rv_loadW 0 rfl rfl rfl)) rfl ?_ | refine GE.q 1 rfl (by kernel_rfl) rfl (qg_runs (rv_loadW 1 rfl rfl rfl)) rfl ?_ | refine GE.q 1 rfl (by kernel_rfl) rfl (qg_runs (rv_loadW 2 rfl rfl rfl)) rfl ?_ | refine GE.q 1 rfl (by kernel_rfl) rfl (qg_runs (rv_loadW 3 rfl rfl rfl)) rfl ?_ | refine GE.q 1 rfl (by kernel_rfl) rfl (qg_runs (rv_loadW 4 rfl rfl rfl)) rfl ?_ | refine GE.q 1 rfl (by kernel_rfl) rfl (qg_runs (rv_loadW 5 rfl rfl rfl)) rfl ?_ | refine GE.q 1 rfl (by kernel_rfl) rfl (qg_runs (rv_loadW 6 rfl rfl rfl)) rfl ?_ | refine GE.q 1 rfl (by kernel_rfl) rfl (qg_runs (rv_loadW 7 rfl rfl rfl)) rfl ?_ | refine GE.q 1 rfl (by kernel_rfl) rfl (qg_runs (rv_loadW 8 rfl rfl rfl)) rfl ?_ | refine GE.q 1 rfl (by kernel_rfl) rfl (qg_runs (rv_loadW 9 rfl rfl rfl)) rfl ?_ | refine GE.q 1 rfl (by kernel_rfl) rfl (qg_runs (rv_loadEW rfl (by first | exact Rd.stays (by assumption) | exact Rd.owned 0 rfl | exact Rd.owned 1 rfl | exact Rd.owned 2 rfl | exact Rd.owned 3 rfl | exact Rd.owned 4 rfl | exact Rd.owned 5 rfl | exact Rd.owned 6 rfl | exact Rd.owned 7 rfl | exact Rd.owned 8 rfl | exact Rd.owned 9 rfl) (by assumption) rfl)) rfl ?_ | refine GE.q 1 rfl (by kernel_rfl) rfl (qg_runs (rv_loadS 0 rfl rfl rfl rfl)) rfl ?_ | refine GE.q 1 rfl (by kernel_rfl) rfl (qg_runs (rv_loadS 1 rfl rfl rfl rfl)) rfl ?_ | refine GE.q 1 rfl (by kernel_rfl) rfl (qg_runs (rv_loadS 2 rfl rfl rfl rfl)) rfl ?_ | refine GE.q 1 rfl (by kernel_rfl) rfl (qg_runs (rv_loadS 3 rfl rfl rfl rfl)) rfl ?_ | refine GE.q 1 rfl (by kernel_rfl) rfl (qg_runs (rv_loadS 4 rfl rfl rfl rfl)) rfl ?_ | refine GE.q 1 rfl (by kernel_rfl) rfl (qg_runs (rv_loadS 5 rfl rfl rfl rfl)) rfl ?_ | refine GE.q 1 rfl (by kernel_rfl) rfl (qg_runs (rv_loadS 6 rfl rfl rfl rfl)) rfl ?_ | refine GE.q 1 rfl (by kernel_rfl) rfl (qg_runs (rv_loadS 7 rfl rfl rfl rfl)) rfl ?_ | refine GE.q 1 rfl (by kernel_rfl) rfl (qg_runs (rv_loadS 8 rfl rfl rfl rfl)) rfl ?_ | refine GE.q 1 rfl (by kernel_rfl) rfl (qg_runs (rv_loadS 9 rfl rfl rfl rfl)) rfl ?_ | refine GE.q 1 rfl (by kernel_rfl) rfl (qg_runs (rv_loadES rfl (by first | exact Rd.stays (by assumption) | exact Rd.owned 0 rfl | exact Rd.owned 1 rfl | exact Rd.owned 2 rfl | exact Rd.owned 3 rfl | exact Rd.owned 4 rfl | exact Rd.owned 5 rfl | exact Rd.owned 6 rfl | exact Rd.owned 7 rfl | exact Rd.owned 8 rfl | exact Rd.owned 9 rfl) (by assumption) rfl rfl)) rfl ?_)
          (refine GE.ol 2 (by kernel_rfl) rfl rfl (og_callF rfl rfl (fun w hh => toPlan_any w (by first | exact Rd.stays (by assumption) _ hh | exact Rd.owned 0 rfl _ hh | exact Rd.owned 1 rfl _ hh | exact Rd.owned 2 rfl _ hh | exact Rd.owned 3 rfl _ hh | exact Rd.owned 4 rfl _ hh | exact Rd.owned 5 rfl _ hh | exact Rd.owned 6 rfl _ hh | exact Rd.owned 7 rfl _ hh) (by first | exact Subs.stays (by assumption) _ hh | exact Subs.owned 0 rfl _ hh | exact Subs.owned 1 rfl _ hh | exact Subs.owned 2 rfl _ hh | exact Subs.owned 3 rfl _ hh | exact Subs.owned 4 rfl _ hh | exact Subs.owned 5 rfl _ hh | exact Subs.owned 6 rfl _ hh | exact Subs.owned 7 rfl _ hh) (by first | exact Rd.stays (by assumption) _ hh | exact Rd.owned 0 rfl _ hh | exact Rd.owned 1 rfl _ hh | exact Rd.owned 2 rfl _ hh | exact Rd.owned 3 rfl _ hh | exact Rd.owned 4 rfl _ hh | exact Rd.owned 5 rfl _ hh | exact Rd.owned 6 rfl _ hh | exact Rd.owned 7 rfl _ hh) (by (try simp only [szM] at *); omega) (by (try simp only [szM] at *); omega))) rfl (fun _ _ h => by first | exact h | exact h.drop 1 | exact h.drop 2 | exact h.drop 3 | exact h.drop 4 | exact h.drop 5) ?_; rintro ⟨⟨cv2, cs2⟩, sv2⟩ ⟨hov, hov2, hvl⟩)
          refine GE.ol 3 (by kernel_rfl) rfl rfl (og_callV rfl rfl (fun w hh => eqPlan_any w (by first | exact Rd.stays (by assumption) _ hh | exact Rd.owned 0 rfl _ hh | exact Rd.owned 1 rfl _ hh | exact Rd.owned 2 rfl _ hh | exact Rd.owned 3 rfl _ hh | exact Rd.owned 4 rfl _ hh | exact Rd.owned 5 rfl _ hh | exact Rd.owned 6 rfl _ hh | exact Rd.owned 7 rfl _ hh) (by first | exact Subs.stays (by assumption) _ hh | exact Subs.owned 0 rfl _ hh | exact Subs.owned 1 rfl _ hh | exact Subs.owned 2 rfl _ hh | exact Subs.owned 3 rfl _ hh | exact Subs.owned 4 rfl _ hh | exact Subs.owned 5 rfl _ hh | exact Subs.owned 6 rfl _ hh | exact Subs.owned 7 rfl _ hh) (by first | exact Rd.stays (by assumption) _ hh | exact Rd.owned 0 rfl _ hh | exact Rd.owned 1 rfl _ hh | exact Rd.owned 2 rfl _ hh | exact Rd.owned 3 rfl _ hh | exact Rd.owned 4 rfl _ hh | exact Rd.owned 5 rfl _ hh | exact Rd.owned 6 rfl _ hh | exact Rd.owned 7 rfl _ hh) (by first | exact Rd.stays (by assumption) _ hh | exact Rd.owned 0 rfl _ hh | exact Rd.owned 1 rfl _ hh | exact Rd.owned 2 rfl _ hh | exact Rd.owned 3 rfl _ hh | exact Rd.owned 4 rfl _ hh | exact Rd.owned 5 rfl _ hh | exact Rd.owned 6 rfl _ hh | exact Rd.owned 7 rfl _ hh) (by first | exact Subs.stays (by assumption) _ hh | exact Subs.owned 0 rfl _ hh | exact Subs.owned 1 rfl _ hh | exact Subs.owned 2 rfl _ hh | exact Subs.owned 3 rfl _ hh | exact Subs.owned 4 rfl _ hh | exact Subs.owned 5 rfl _ hh | exact Subs.owned 6 rfl _ hh | exact Subs.owned 7 rfl _ hh) (by first | exact Rd.stays (by assumption) _ hh | exact Rd.owned 0 rfl _ hh | exact Rd.owned 1 rfl _ hh | exact Rd.owned 2 rfl _ hh | exact Rd.owned 3 rfl _ hh | exact Rd.owned 4 rfl _ hh | exact Rd.owned 5 rfl _ hh | exact Rd.owned 6 rfl _ hh | exact Rd.owned 7 rfl _ hh))) rfl (fun _ _ h => by first | exact h | exact h.drop 1 | exact h.drop 2 | exact h.drop 3 | exact h.drop 4 | exact h.drop 5) (fun _ _ => ?_)
          refine GE.ol 4 (by kernel_rfl) rfl rfl (og_runs (rv_not rfl)) rfl (fun _ _ h => by first | exact h | exact h.drop 1 | exact h.drop 2 | exact h.drop 3 | exact h.drop 4 | exact h.drop 5) (fun _ _ => ?_)
          refine GE.done (by kernel_rfl) ?_
          refine G.thenN ?_
          refine G.cond rfl (fun hc => ?_) (fun hc => ?_)
          · try exact Bool.noConfusion hc
            all_goals
             try replace hc := of_decide_eq_true hc
             try (exfalso; first | contradiction | omega)
             all_goals
              refine G.seq ?_
              refine G.region ?_
              refine G.v (rv_assign rfl) rfl ?_
              refine G.done ?_
              refine G.thenN ?_
              refine G.ret ?_
              refine G.thenR ?_
              first | exact G.retFV rfl rfl rfl | (exfalso; simp_all)
          · try exact Bool.noConfusion hc
            all_goals
             try replace hc := of_decide_eq_false hc
             try (exfalso; first | contradiction | omega)
             all_goals
              refine G.skip ?_
              refine G.thenN ?_
              refine G.seq ?_
              refine G.region ?_
              refine G.v (rv_assign rfl) rfl ?_
              refine G.done ?_
              refine G.thenN ?_
              refine G.ret ?_
              first | exact G.retFV rfl rfl rfl | (exfalso; simp_all)
end Go.Proofs.Ytihgahmdofpfmaa
