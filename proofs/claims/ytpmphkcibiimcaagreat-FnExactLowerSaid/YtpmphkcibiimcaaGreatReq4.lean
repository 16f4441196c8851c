/-
  The bounds of an order.
-/
import Derived.Test.YtpmphkcibiimcaaGreatReq3
namespace Go.Proofs.YtpmphkcibiimcaaGreat
open Go.RowKit
attribute [local irreducible] Go.wpList Go.Code.wp Go.Exit.then Go.Exit.inBlock Go.bodyPost Go.Calls pE pB G RunsV FnV Fn FnM
set_option maxRecDepth 100000
set_option maxHeartbeats 1000000
theorem cnt_take {l : List ItemM} {k : Nat} {b : ItemM} (h : l[k]? = some b) : cntSum (l.take (k + 1)) = cntSum (l.take k) + b.cnt := by
  simp only [cntSum, List.take_add_one, h, Option.toList_some, List.map_append, List.sum_append, List.map_cons, List.map_nil, List.sum_cons, List.sum_nil, Int.add_zero]
theorem item_cnt {b : ItemM} (h : itemOkM b = true) : 1 ≤ b.cnt ∧ b.cnt ≤ 6 := by
  simp only [itemOkM, Bool.and_eq_true] at h
  have := h.2
  simp only [inB, Bool.and_eq_true, decide_eq_true_eq] at this
  exact this
theorem cnt_in : ∀ {l : List ItemM}, l.all itemOkM = true → (l.length : Int) ≤ cntSum l ∧ cntSum l ≤ 6 * l.length
  | [], _ => by simp [cntSum]
  | b :: r, h => by
    rw [List.all_cons, Bool.and_eq_true] at h
    have h1 := cnt_in h.2
    have h2 := item_cnt h.1
    simp only [cntSum, List.map_cons, List.sum_cons, List.length_cons] at *
    omega
theorem boundsOk1_any (b : PairM) (w : World) : FnV Tryz.prog 129 [.agg (PairM.cells b).toArray] w (.bool (!pairOkM b)) := by
  refine FnV.of (n := 13) Tryz.func129 rfl rfl ?_
  refine G.seq ?_
  refine G.region ?_
  refine G.op (og_box rfl rfl) rfl (fun bk1 _ => ?_)
  refine G.v (rv_assign rfl) rfl ?_
  refine G.done ?_
  refine G.thenN ?_
  refine G.seq ?_
  refine G.region ?_
  (first | refine G.v (rv_field rfl) rfl ?_ | refine G.v (rv_fieldE rfl) rfl ?_)
  refine G.v (rv_load1 0 rfl rfl rfl) rfl ?_
  refine G.op (og_callV rfl rfl (fun w _ => in_any _ _ _ w)) rfl (fun _ _ => ?_)
  refine G.v (rv_not rfl) rfl ?_
  refine G.v (rv_move rfl) rfl ?_
  all_goals (((with_reducible refine G.gP rfl rfl (fun hg => ?_) (fun hg => ?_)) <;> (try exact Bool.noConfusion hg) <;> (first | (refine G.gY rfl rfl ?_; (first | refine G.v (rv_field rfl) rfl ?_ | refine G.v (rv_fieldE rfl) rfl ?_)) | refine G.gN rfl rfl rfl ?_ | refine G.gU rfl rfl rfl ?_)))
  all_goals ((first | (refine G.gY rfl rfl ?_; refine G.v (rv_load1 0 rfl rfl rfl) rfl ?_) | refine G.gN rfl rfl rfl ?_ | refine G.gU rfl rfl rfl ?_))
  all_goals ((first | (refine G.gY rfl rfl ?_; refine G.op (og_callV rfl rfl (fun w _ => in_any _ _ _ w)) rfl (fun _ _ => ?_)) | refine G.gN rfl rfl rfl ?_ | refine G.gU rfl rfl rfl ?_))
  all_goals ((first | (refine G.gY rfl rfl ?_; refine G.v (rv_not rfl) rfl ?_) | refine G.gN rfl rfl rfl ?_ | refine G.gU rfl rfl rfl ?_))
  all_goals ((first | refine G.v (rv_pickT rfl rfl) rfl ?_ | refine G.v (rv_pickF rfl rfl) rfl ?_))
  all_goals (refine G.v (rv_assign rfl) rfl ?_)
  all_goals
   refine G.done ?_
   refine G.thenN ?_
   refine G.ret ?_
   refine G.retFV rfl rfl ?_; simp_all [pairOkM]
theorem boundsOk2_any (b : TypeM) (w : World) : FnV Tryz.prog 130 [.agg (TypeM.cells b).toArray] w (.bool (!typeOkM b)) := by
  refine FnV.of (n := 6) Tryz.func130 rfl rfl ?_
  refine G.seq ?_
  refine G.region ?_
  refine G.op (og_box rfl rfl) rfl (fun bk1 _ => ?_)
  refine G.v (rv_assign rfl) rfl ?_
  refine G.done ?_
  refine G.thenN ?_
  refine G.seq ?_
  refine G.region ?_
  (first | refine G.v (rv_loadW 0 rfl rfl rfl) rfl ?_ | refine G.v (rv_loadP 0 rfl rfl (.one (.one (.one (.one (.one (.one (.one .nil)))))))) rfl ?_)
  refine G.op (og_callV rfl rfl (fun w hh => typeOk_any b w)) rfl (fun _ _ => ?_)
  refine G.v (rv_not rfl) rfl ?_
  refine G.v (rv_assign rfl) rfl ?_
  refine G.done ?_
  refine G.thenN ?_
  refine G.ret ?_
  exact G.retFV rfl rfl rfl
theorem boundsOk_any {r : ReqM} {pv tv iv : Value} (w : World) (h : Rd w pv 2 (r.pairs.map PairM.cells)) (h2 : Rd w tv 7 (r.types.map TypeM.cells)) (h3 : Rd w iv 7 (r.items.map ItemM.cells)) :
    FnV Tryz.prog 111 [.agg (r.cells pv tv iv).toArray] w (.bool (boundsOkM r)) := by
  have hle := h.le_map
  have hle2 := h2.le_map
  have hle3 := h3.le_map
  have hln : (r.pairs.map PairM.cells).length = r.pairs.length := by simp
  have hln2 : (r.types.map TypeM.cells).length = r.types.length := by simp
  have hln3 : (r.items.map ItemM.cells).length = r.items.length := by simp
  refine FnV.of (n := 70) Tryz.func111 rfl rfl ?_
  refine G.seq ?_
  refine G.region ?_
  refine G.op (og_box rfl rfl) rfl (fun bk1 _ => ?_)
  refine G.v (rv_assign rfl) rfl ?_
  refine G.done ?_
  refine G.thenN ?_
  refine G.seq ?_
  refine G.seq ?_
  refine G.region ?_
  (first | refine G.v (rv_field rfl) rfl ?_ | refine G.v (rv_fieldE rfl) rfl ?_)
  (first | refine G.v (rv_load1 0 rfl rfl rfl) rfl ?_ | refine G.v (rv_load1 1 rfl rfl rfl) rfl ?_)
  refine G.op (og_callV rfl rfl (fun w _ => in_any _ _ _ w)) rfl (fun _ _ => ?_)
  refine G.v (rv_not rfl) rfl ?_
  refine G.v (rv_move rfl) rfl ?_
  all_goals (((with_reducible refine G.gP rfl rfl (fun hg => ?_) (fun hg => ?_)) <;> (try exact Bool.noConfusion hg) <;> (first | (refine G.gY rfl rfl ?_; (first | refine G.v (rv_field rfl) rfl ?_ | refine G.v (rv_fieldE rfl) rfl ?_)) | refine G.gN rfl rfl rfl ?_ | refine G.gU rfl rfl rfl ?_)))
  all_goals ((first | (refine G.gY rfl rfl ?_; (first | refine G.v (rv_loadW 0 rfl rfl rfl) rfl ?_ | refine G.v (rv_loadW 1 rfl rfl rfl) rfl ?_ | refine G.v (rv_loadP 0 rfl rfl (.skip (.one (.one (.one (.one .nil)))))) rfl ?_ | refine G.v (rv_loadP 1 rfl rfl (.skip (.one (.one (.one (.one .nil)))))) rfl ?_)) | refine G.gN rfl rfl rfl ?_ | refine G.gU rfl rfl rfl ?_))
  all_goals ((first | (refine G.gY rfl rfl ?_; refine G.op (og_callV rfl rfl (fun w hh => palletOk_any r.pal w)) rfl (fun _ _ => ?_)) | refine G.gN rfl rfl rfl ?_ | refine G.gU rfl rfl rfl ?_))
  all_goals ((first | (refine G.gY rfl rfl ?_; refine G.v (rv_not rfl) rfl ?_) | refine G.gN rfl rfl rfl ?_ | refine G.gU rfl rfl rfl ?_))
  all_goals ((first | refine G.v (rv_pickT rfl rfl) rfl ?_ | refine G.v (rv_pickF rfl rfl) rfl ?_))
  all_goals (refine G.v (rv_move rfl) rfl ?_)
  all_goals (((with_reducible refine G.gP rfl rfl (fun hg => ?_) (fun hg => ?_)) <;> (try exact Bool.noConfusion hg) <;> (first | (refine G.gY rfl rfl ?_; (first | refine G.v (rv_field rfl) rfl ?_ | refine G.v (rv_fieldE rfl) rfl ?_)) | refine G.gN rfl rfl rfl ?_ | refine G.gU rfl rfl rfl ?_)))
  all_goals ((first | (refine G.gY rfl rfl ?_; (first | refine G.v (rv_load1 0 rfl rfl rfl) rfl ?_ | refine G.v (rv_load1 1 rfl rfl rfl) rfl ?_)) | refine G.gN rfl rfl rfl ?_ | refine G.gU rfl rfl rfl ?_))
  all_goals ((first | (refine G.gY rfl rfl ?_; refine G.op (og_callV rfl rfl (fun w _ => in_any _ _ _ w)) rfl (fun _ _ => ?_)) | refine G.gN rfl rfl rfl ?_ | refine G.gU rfl rfl rfl ?_))
  all_goals ((first | (refine G.gY rfl rfl ?_; refine G.v (rv_not rfl) rfl ?_) | refine G.gN rfl rfl rfl ?_ | refine G.gU rfl rfl rfl ?_))
  all_goals ((first | refine G.v (rv_pickT rfl rfl) rfl ?_ | refine G.v (rv_pickF rfl rfl) rfl ?_))
  all_goals (refine G.v (rv_move rfl) rfl ?_)
  all_goals (((with_reducible refine G.gP rfl rfl (fun hg => ?_) (fun hg => ?_)) <;> (try exact Bool.noConfusion hg) <;> (first | (refine G.gY rfl rfl ?_; (first | refine G.v (rv_field rfl) rfl ?_ | refine G.v (rv_fieldE rfl) rfl ?_)) | refine G.gN rfl rfl rfl ?_ | refine G.gU rfl rfl rfl ?_)))
  all_goals ((first | (refine G.gY rfl rfl ?_; (first | refine G.v (rv_load1 0 rfl rfl rfl) rfl ?_ | refine G.v (rv_load1 1 rfl rfl rfl) rfl ?_)) | refine G.gN rfl rfl rfl ?_ | refine G.gU rfl rfl rfl ?_))
  all_goals ((first | (refine G.gY rfl rfl ?_; refine G.v (rv_len rfl (by first | exact Rd.stays (by assumption) | exact Rd.owned 0 rfl | exact Rd.owned 1 rfl)) rfl ?_) | refine G.gN rfl rfl rfl ?_ | refine G.gU rfl rfl rfl ?_))
  all_goals ((first | (refine G.gY rfl rfl ?_; refine G.v (rv_gtr rfl rfl) rfl ?_) | refine G.gN rfl rfl rfl ?_ | refine G.gU rfl rfl rfl ?_))
  all_goals ((first | refine G.v (rv_pickT rfl rfl) rfl ?_ | refine G.v (rv_pickF rfl rfl) rfl ?_))
  all_goals
   refine G.done ?_
   refine G.thenN ?_
   refine G.cond rfl (fun hc => ?_) (fun hc => ?_)
   · try exact Bool.noConfusion hc
     all_goals
      try replace hc := of_decide_eq_true hc
      try simp only [List.length_map] at hc
      try (exfalso; first | contradiction | omega)
      all_goals
       refine G.seq ?_
       refine G.region ?_
       refine G.v (rv_assign rfl) rfl ?_
       refine G.done ?_
       refine G.thenN ?_
       refine G.ret ?_
       refine G.thenR ?_
       first | (have hcc : ¬ (r.pairs.length : Int) ≤ 16 := (by omega); refine G.retFV rfl rfl (congrArg Value.bool ?_); simp only [boundsOkM]; rw [decide_eq_false hcc]; simp; done) | (have hcc : ¬ (r.items.length : Int) ≤ 8 := (by omega); refine G.retFV rfl rfl (congrArg Value.bool ?_); simp only [boundsOkM]; rw [decide_eq_false hcc]; simp; done) | (refine G.retFV rfl rfl (congrArg Value.bool ?_); simp only [Bool.not_eq_true', Bool.not_eq_false', List.length_map] at *; clear h h2 h3; simp only [boundsOkM, *, Bool.and_false, Bool.false_and]; done) | (have hno := all_no hb (by simpa using hc); refine G.retFV rfl rfl (congrArg Value.bool ?_); rw [boundsOkM, hno]; simp) | (have hal := all_end ht hlt; rw [take_all hlt]; refine G.retFV rfl rfl (congrArg Value.bool ?_); simp_all [boundsOkM])
   · try exact Bool.noConfusion hc
     all_goals
      try replace hc := of_decide_eq_false hc
      try simp only [List.length_map] at hc
      try (exfalso; first | contradiction | omega)
      all_goals
       refine G.skip ?_
       refine G.thenN ?_
       refine G.seq ?_
       refine G.seq ?_
       refine G.region ?_
       (first | refine G.v (rv_field rfl) rfl ?_ | refine G.v (rv_fieldE rfl) rfl ?_)
       (first | refine G.v (rv_load1 0 rfl rfl rfl) rfl ?_ | refine G.v (rv_load1 1 rfl rfl rfl) rfl ?_)
       refine G.op (og_callV rfl rfl (fun w hh => (containsPair_any w (Rd.stays h _ hh) (fun w' k b hw hb => boundsOk1_any b w')).mono (congrArg Value.bool any_not))) rfl (fun _ _ => ?_)
       refine G.done ?_
       refine G.thenN ?_
       refine G.cond rfl (fun hc => ?_) (fun hc => ?_)
       · try exact Bool.noConfusion hc
         all_goals
          try replace hc := of_decide_eq_true hc
          try simp only [List.length_map] at hc
          try (exfalso; first | contradiction | omega)
          all_goals
           refine G.seq ?_
           refine G.region ?_
           refine G.v (rv_assign rfl) rfl ?_
           refine G.done ?_
           refine G.thenN ?_
           refine G.ret ?_
           refine G.thenR ?_
           first | (have hcc : ¬ (r.pairs.length : Int) ≤ 16 := (by omega); refine G.retFV rfl rfl (congrArg Value.bool ?_); simp only [boundsOkM]; rw [decide_eq_false hcc]; simp; done) | (have hcc : ¬ (r.items.length : Int) ≤ 8 := (by omega); refine G.retFV rfl rfl (congrArg Value.bool ?_); simp only [boundsOkM]; rw [decide_eq_false hcc]; simp; done) | (refine G.retFV rfl rfl (congrArg Value.bool ?_); simp only [Bool.not_eq_true', Bool.not_eq_false', List.length_map] at *; clear h h2 h3; simp only [boundsOkM, *, Bool.and_false, Bool.false_and]; done) | (have hno := all_no hb (by simpa using hc); refine G.retFV rfl rfl (congrArg Value.bool ?_); rw [boundsOkM, hno]; simp) | (have hal := all_end ht hlt; rw [take_all hlt]; refine G.retFV rfl rfl (congrArg Value.bool ?_); simp_all [boundsOkM])
       · try exact Bool.noConfusion hc
         all_goals
          try replace hc := of_decide_eq_false hc
          try simp only [List.length_map] at hc
          try (exfalso; first | contradiction | omega)
          all_goals
           refine G.skip ?_
           refine G.thenN ?_
           refine G.seq ?_
           refine G.seq ?_
           refine G.region ?_
           (first | refine G.v (rv_field rfl) rfl ?_ | refine G.v (rv_fieldE rfl) rfl ?_)
           (first | refine G.v (rv_load1 0 rfl rfl rfl) rfl ?_ | refine G.v (rv_load1 1 rfl rfl rfl) rfl ?_)
           refine G.v (rv_len rfl (by first | exact Rd.stays (by assumption) | exact Rd.owned 0 rfl | exact Rd.owned 1 rfl)) rfl ?_
           refine G.op (og_callV rfl rfl (fun w _ => in_any _ _ _ w)) rfl (fun _ _ => ?_)
           refine G.v (rv_not rfl) rfl ?_
           refine G.v (rv_move rfl) rfl ?_
           all_goals (((with_reducible refine G.gP rfl rfl (fun hg => ?_) (fun hg => ?_)) <;> (try exact Bool.noConfusion hg) <;> (first | (refine G.gY rfl rfl ?_; (first | refine G.v (rv_field rfl) rfl ?_ | refine G.v (rv_fieldE rfl) rfl ?_)) | refine G.gN rfl rfl rfl ?_ | refine G.gU rfl rfl rfl ?_)))
           all_goals ((first | (refine G.gY rfl rfl ?_; (first | refine G.v (rv_load1 0 rfl rfl rfl) rfl ?_ | refine G.v (rv_load1 1 rfl rfl rfl) rfl ?_)) | refine G.gN rfl rfl rfl ?_ | refine G.gU rfl rfl rfl ?_))
           all_goals ((first | (refine G.gY rfl rfl ?_; refine G.op (og_callV rfl rfl (fun w hh => (containsType_any w (Rd.stays h2 _ hh) (fun w' k b hw hb => boundsOk2_any b w')).mono (congrArg Value.bool any_not))) rfl (fun _ _ => ?_)) | refine G.gN rfl rfl rfl ?_ | refine G.gU rfl rfl rfl ?_))
           all_goals ((first | refine G.v (rv_pickT rfl rfl) rfl ?_ | refine G.v (rv_pickF rfl rfl) rfl ?_))
           all_goals (refine G.v (rv_move rfl) rfl ?_)
           all_goals (((with_reducible refine G.gP rfl rfl (fun hg => ?_) (fun hg => ?_)) <;> (try exact Bool.noConfusion hg) <;> (first | (refine G.gY rfl rfl ?_; (first | refine G.v (rv_field rfl) rfl ?_ | refine G.v (rv_fieldE rfl) rfl ?_)) | refine G.gN rfl rfl rfl ?_ | refine G.gU rfl rfl rfl ?_)))
           all_goals ((first | (refine G.gY rfl rfl ?_; (first | refine G.v (rv_load1 0 rfl rfl rfl) rfl ?_ | refine G.v (rv_load1 1 rfl rfl rfl) rfl ?_)) | refine G.gN rfl rfl rfl ?_ | refine G.gU rfl rfl rfl ?_))
           all_goals ((first | (refine G.gY rfl rfl ?_; refine G.op (og_callV rfl rfl (fun w _ => in_any _ _ _ w)) rfl (fun _ _ => ?_)) | refine G.gN rfl rfl rfl ?_ | refine G.gU rfl rfl rfl ?_))
           all_goals ((first | (refine G.gY rfl rfl ?_; refine G.v (rv_not rfl) rfl ?_) | refine G.gN rfl rfl rfl ?_ | refine G.gU rfl rfl rfl ?_))
           all_goals ((first | refine G.v (rv_pickT rfl rfl) rfl ?_ | refine G.v (rv_pickF rfl rfl) rfl ?_))
           all_goals (refine G.v (rv_move rfl) rfl ?_)
           all_goals (((with_reducible refine G.gP rfl rfl (fun hg => ?_) (fun hg => ?_)) <;> (try exact Bool.noConfusion hg) <;> (first | (refine G.gY rfl rfl ?_; (first | refine G.v (rv_field rfl) rfl ?_ | refine G.v (rv_fieldE rfl) rfl ?_)) | refine G.gN rfl rfl rfl ?_ | refine G.gU rfl rfl rfl ?_)))
           all_goals ((first | (refine G.gY rfl rfl ?_; (first | refine G.v (rv_load1 0 rfl rfl rfl) rfl ?_ | refine G.v (rv_load1 1 rfl rfl rfl) rfl ?_)) | refine G.gN rfl rfl rfl ?_ | refine G.gU rfl rfl rfl ?_))
           all_goals ((first | (refine G.gY rfl rfl ?_; refine G.v (rv_len rfl (by first | exact Rd.stays (by assumption) | exact Rd.owned 0 rfl | exact Rd.owned 1 rfl)) rfl ?_) | refine G.gN rfl rfl rfl ?_ | refine G.gU rfl rfl rfl ?_))
           all_goals ((first | (refine G.gY rfl rfl ?_; refine G.v (rv_gtr rfl rfl) rfl ?_) | refine G.gN rfl rfl rfl ?_ | refine G.gU rfl rfl rfl ?_))
           all_goals ((first | refine G.v (rv_pickT rfl rfl) rfl ?_ | refine G.v (rv_pickF rfl rfl) rfl ?_))
           all_goals
            refine G.done ?_
            refine G.thenN ?_
            refine G.cond rfl (fun hc => ?_) (fun hc => ?_)
            · try exact Bool.noConfusion hc
              all_goals
               try replace hc := of_decide_eq_true hc
               try simp only [List.length_map] at hc
               try (exfalso; first | contradiction | omega)
               all_goals
                refine G.seq ?_
                refine G.region ?_
                refine G.v (rv_assign rfl) rfl ?_
                refine G.done ?_
                refine G.thenN ?_
                refine G.ret ?_
                refine G.thenR ?_
                first | (have hcc : ¬ (r.pairs.length : Int) ≤ 16 := (by omega); refine G.retFV rfl rfl (congrArg Value.bool ?_); simp only [boundsOkM]; rw [decide_eq_false hcc]; simp; done) | (have hcc : ¬ (r.items.length : Int) ≤ 8 := (by omega); refine G.retFV rfl rfl (congrArg Value.bool ?_); simp only [boundsOkM]; rw [decide_eq_false hcc]; simp; done) | (refine G.retFV rfl rfl (congrArg Value.bool ?_); simp only [Bool.not_eq_true', Bool.not_eq_false', List.length_map] at *; clear h h2 h3; simp only [boundsOkM, *, Bool.and_false, Bool.false_and]; done) | (have hno := all_no hb (by simpa using hc); refine G.retFV rfl rfl (congrArg Value.bool ?_); rw [boundsOkM, hno]; simp) | (have hal := all_end ht hlt; rw [take_all hlt]; refine G.retFV rfl rfl (congrArg Value.bool ?_); simp_all [boundsOkM])
            · try exact Bool.noConfusion hc
              all_goals
               try replace hc := of_decide_eq_false hc
               try simp only [List.length_map] at hc
               try (exfalso; first | contradiction | omega)
               all_goals
                refine G.skip ?_
                refine G.thenN ?_
                refine G.seq ?_
                refine G.region ?_
                refine G.v (rv_assign rfl) rfl ?_
                refine G.done ?_
                refine G.thenN ?_
                refine G.seq ?_
                refine G.seq ?_
                refine G.region ?_
                (first | refine G.v (rv_field rfl) rfl ?_ | refine G.v (rv_fieldE rfl) rfl ?_)
                (first | refine G.v (rv_load1 0 rfl rfl rfl) rfl ?_ | refine G.v (rv_load1 1 rfl rfl rfl) rfl ?_)
                refine G.v (rv_len rfl (by first | exact Rd.stays (by assumption) | exact Rd.owned 0 rfl | exact Rd.owned 1 rfl)) rfl ?_
                refine G.v (rv_move rfl) rfl ?_
                refine G.done ?_
                refine G.thenN ?_
                refine G.block ?_
                -- loop 0: turned [3, 56], kept [54, 55]
                have hi8 : r.items.length ≤ 8 := by (clear h h2 h3; simp_all; omega)
                refine G.loopK (ι := Nat) (ks := [54, 55]) (fun k => [(3, .int .i64 (cntSum (r.items.take k))), (56, .int .i64 k)]) (fun _ => []) (fun k => k ≤ r.items.length ∧ (r.items.take k).all itemOkM = true) (fun k => r.items.length - k) 0 (.cons rfl (.cons rfl (.nil))) rfl ?_ ?_ ?_
                · exact ⟨Nat.zero_le _, rfl⟩
                · exact ⟨rfl, rfl, trivial⟩
                rintro k ⟨hk, ht⟩
                have hcn := cnt_in ht
                rw [List.length_take, Nat.min_eq_left hk] at hcn
                by_cases hlt : k < r.items.length
                case' pos => (obtain ⟨b, hb⟩ := get_of_lt hlt; have he := get_map hb ItemM.cells; have hct := cnt_take hb)
                all_goals
                 refine G.seq ?_
                 refine G.region ?_
                 refine G.v (rv_lss rfl rfl) rfl ?_
                 refine G.done ?_
                 refine G.thenN ?_
                 refine G.seq ?_
                 refine G.cond rfl (fun hc => ?_) (fun hc => ?_)
                 · try exact Bool.noConfusion hc
                   all_goals
                    try replace hc := of_decide_eq_true hc
                    try simp only [List.length_map] at hc
                    try (exfalso; first | contradiction | omega)
                    all_goals
                     refine G.skip ?_
                     refine G.thenN ?_
                     refine G.seq ?_
                     refine G.block ?_
                     refine G.seq ?_
                     refine G.region ?_
                     (first | refine G.v (rv_indexH rfl rfl (by first | exact Rd.stays (by assumption) | exact Rd.owned 0 rfl | exact Rd.owned 1 rfl) rfl (by assumption)) rfl ?_ | refine G.v (rv_index rfl rfl (by first | exact Rd.stays (by assumption) | exact Rd.owned 0 rfl | exact Rd.owned 1 rfl) rfl (by assumption)) rfl ?_)
                     (first | refine G.v (rv_loadEW rfl (by first | exact Rd.stays (by assumption) | exact Rd.owned 0 rfl | exact Rd.owned 1 rfl) (by assumption) rfl) rfl ?_ | refine G.v (rv_loadEP rfl (by first | exact Rd.stays (by assumption) | exact Rd.owned 0 rfl | exact Rd.owned 1 rfl) (by assumption) (.one (.one (.one (.one (.one (.one (.one .nil)))))))) rfl ?_)
                     refine G.op (og_alloc) rfl (fun bk5 _ => ?_)
                     (first | refine G.op0 (og_st0 rfl rfl rfl rfl rfl rfl (.zero (.cons (.cons (.cons (.cons (.cons (.cons (.cons .nil))))))))) (fun _ _ => ?_) | refine G.op0 (og_st1 rfl rfl rfl rfl rfl rfl (.zero (.cons (.cons (.cons (.cons (.cons (.cons (.cons .nil))))))))) (fun _ _ => ?_))
                     refine G.done ?_
                     refine G.thenN ?_
                     refine G.seq ?_
                     refine G.seq ?_
                     refine G.region ?_
                     (first | refine G.v (rv_loadW 0 rfl rfl rfl) rfl ?_ | refine G.v (rv_loadW 1 rfl rfl rfl) rfl ?_ | refine G.v (rv_loadP 0 rfl rfl (.one (.one (.one (.one (.one (.one (.one .nil)))))))) rfl ?_ | refine G.v (rv_loadP 1 rfl rfl (.one (.one (.one (.one (.one (.one (.one .nil)))))))) rfl ?_)
                     refine G.op (og_callV rfl rfl (fun w hh => itemOk_any b w)) rfl (fun _ _ => ?_)
                     refine G.v (rv_not rfl) rfl ?_
                     refine G.done ?_
                     refine G.thenN ?_
                     refine G.cond rfl (fun hc => ?_) (fun hc => ?_)
                     · try exact Bool.noConfusion hc
                       all_goals
                        try replace hc := of_decide_eq_true hc
                        try simp only [List.length_map] at hc
                        try (exfalso; first | contradiction | omega)
                        all_goals
                         refine G.seq ?_
                         refine G.region ?_
                         refine G.v (rv_assign rfl) rfl ?_
                         refine G.done ?_
                         refine G.thenN ?_
                         refine G.ret ?_
                         refine G.thenR ?_
                         refine G.inR ?_
                         refine G.thenR ?_
                         refine G.thenR ?_
                         refine G.inR ?_
                         refine G.thenR ?_
                         first | (have hcc : ¬ (r.pairs.length : Int) ≤ 16 := (by omega); refine G.retFV rfl rfl (congrArg Value.bool ?_); simp only [boundsOkM]; rw [decide_eq_false hcc]; simp; done) | (have hcc : ¬ (r.items.length : Int) ≤ 8 := (by omega); refine G.retFV rfl rfl (congrArg Value.bool ?_); simp only [boundsOkM]; rw [decide_eq_false hcc]; simp; done) | (refine G.retFV rfl rfl (congrArg Value.bool ?_); simp only [Bool.not_eq_true', Bool.not_eq_false', List.length_map] at *; clear h h2 h3; simp only [boundsOkM, *, Bool.and_false, Bool.false_and]; done) | (have hno := all_no hb (by simpa using hc); refine G.retFV rfl rfl (congrArg Value.bool ?_); rw [boundsOkM, hno]; simp) | (have hal := all_end ht hlt; rw [take_all hlt]; refine G.retFV rfl rfl (congrArg Value.bool ?_); simp_all [boundsOkM])
                     · try exact Bool.noConfusion hc
                       all_goals
                        try replace hc := of_decide_eq_false hc
                        try simp only [List.length_map] at hc
                        try (exfalso; first | contradiction | omega)
                        all_goals
                         have hcb := item_cnt (b := b) (by simpa using hc)
                         all_goals
                          refine G.skip ?_
                          refine G.thenN ?_
                          refine G.region ?_
                          refine G.v (rv_move rfl) rfl ?_
                          (first | refine G.v (rv_field rfl) rfl ?_ | refine G.v (rv_fieldE rfl) rfl ?_)
                          (first | refine G.v (rv_load1 0 rfl rfl rfl) rfl ?_ | refine G.v (rv_load1 1 rfl rfl rfl) rfl ?_)
                          (first | refine G.v (rv_incr rfl rfl (by omega)) rfl ?_ | refine G.v (rv_addB rfl rfl (by omega) (by omega)) rfl ?_)
                          refine G.v (rv_assign rfl) rfl ?_
                          refine G.done ?_
                          refine G.inN ?_
                          refine G.thenN ?_
                          refine G.region ?_
                          (first | refine G.v (rv_incr rfl rfl (by omega)) rfl ?_ | refine G.v (rv_addB rfl rfl (by omega) (by omega)) rfl ?_)
                          refine G.v (rv_move rfl) rfl ?_
                          refine G.done ?_
                          first | refine G.backK (k + 1) 0 rfl (.cons rfl (.cons rfl (.nil))) ?_ ?_ ?_ | refine G.backK (k + 1) 1 rfl (.cons rfl (.cons rfl (.nil))) ?_ ?_ ?_ | refine G.backK (k + 1) 2 rfl (.cons rfl (.cons rfl (.nil))) ?_ ?_ ?_
                          · exact ⟨congrArg (fun z => some (Value.int .i64 z)) hct.symm, rfl, trivial⟩
                          · exact ⟨hlt, all_next ht hb (by simpa using hc)⟩
                          · omega
                 · try exact Bool.noConfusion hc
                   all_goals
                    try replace hc := of_decide_eq_false hc
                    try simp only [List.length_map] at hc
                    try (exfalso; first | contradiction | omega)
                    all_goals
                     refine G.exit ?_
                     refine G.thenX ?_
                     refine G.thenX ?_
                     refine G.inX ?_
                     refine G.thenN ?_
                     refine G.seq ?_
                     refine G.region ?_
                     refine G.v (rv_move rfl) rfl ?_
                     refine G.v (rv_leq rfl rfl) rfl ?_
                     refine G.v (rv_assign rfl) rfl ?_
                     refine G.done ?_
                     refine G.thenN ?_
                     refine G.ret ?_
                     first | (have hcc : ¬ (r.pairs.length : Int) ≤ 16 := (by omega); refine G.retFV rfl rfl (congrArg Value.bool ?_); simp only [boundsOkM]; rw [decide_eq_false hcc]; simp; done) | (have hcc : ¬ (r.items.length : Int) ≤ 8 := (by omega); refine G.retFV rfl rfl (congrArg Value.bool ?_); simp only [boundsOkM]; rw [decide_eq_false hcc]; simp; done) | (refine G.retFV rfl rfl (congrArg Value.bool ?_); simp only [Bool.not_eq_true', Bool.not_eq_false', List.length_map] at *; clear h h2 h3; simp only [boundsOkM, *, Bool.and_false, Bool.false_and]; done) | (have hno := all_no hb (by simpa using hc); refine G.retFV rfl rfl (congrArg Value.bool ?_); rw [boundsOkM, hno]; simp) | (have hal := all_end ht hlt; rw [take_all hlt]; refine G.retFV rfl rfl (congrArg Value.bool ?_); simp_all [boundsOkM])
end Go.Proofs.YtpmphkcibiimcaaGreat
