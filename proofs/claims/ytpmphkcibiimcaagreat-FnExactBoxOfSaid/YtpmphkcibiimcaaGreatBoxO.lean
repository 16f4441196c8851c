/-
  A carton's box.
-/
import Derived.Test.YtpmphkcibiimcaaGreatGram
namespace Go.Proofs.YtpmphkcibiimcaaGreat
open Go.RowKit
theorem FnV.toFn {P : Program} {f : FuncId} {vs : List Value} {w : World} {v : Value} (h : FnV P f vs w v) : Fn P f vs w (fun _ : Unit => True) (fun _ => v) (fun _ => []) :=
  Calls.mono h fun e w' he => ⟨(), trivial, he.1, he.2⟩
attribute [local irreducible] Go.wpList Go.Code.wp Go.Exit.then Go.Exit.inBlock Go.bodyPost Go.Calls pE pB G RunsV FnV Fn FnM
set_option maxRecDepth 100000
set_option maxHeartbeats 4000000
def grossM (r : ReqM) (x : CartonM) : Int := if (typeAt r x.t).2 = true ∧ classM r = 0 then (typeAt r x.t).1.tare + gramM r x.l else 0
def boxOfM (r : ReqM) (x : CartonM) : BoxM := if (typeAt r x.t).2 = true ∧ classM r = 0 then ⟨(typeAt r x.t).1.w, (typeAt r x.t).1.d, (typeAt r x.t).1.h, grossM r x⟩ else ⟨0, 0, 0, 0⟩
theorem type_at_in {r : ReqM} {id : Int} (h : (typeAt r id).2 = true ∧ classM r = 0) : 0 ≤ (typeAt r id).1.tare ∧ (typeAt r id).1.tare ≤ 100000 := by
  rw [typeAt] at h ⊢
  cases hf : typeByM r id with
  | none => rw [hf] at h; exact absurd h.1 (by decide)
  | some t =>
    have := type_in (bounds_types (cls_sound h.2) t (List.mem_of_find?_eq_some hf))
    dsimp only
    omega
theorem gross_any {r : ReqM} {pv tv iv : Value} (x : CartonM × Value) (w : World) (h : Rd w pv 2 (r.pairs.map PairM.cells)) (h2 : Rd w tv 7 (r.types.map TypeM.cells)) (h3 : Rd w iv 7 (r.items.map ItemM.cells)) (h4 : Rd w x.2 1 (x.1.l.map icell)) (hul : x.1.l.length ≤ 1048576) :
    FnV Tryz.prog 43 [.agg (r.cells pv tv iv).toArray, .agg (CartonM.cells x).toArray] w (.int .i64 (grossM r x.1)) := by
  have hgi := gram_in r x.1.l
  refine FnV.of (n := 28) Tryz.func43 rfl rfl ?_
  refine G.seq ?_
  refine G.region ?_
  refine G.op (og_box rfl rfl) rfl (fun bk2 _ => ?_)
  refine G.op (og_box rfl rfl) rfl (fun bk3 _ => ?_)
  refine G.v (rv_assign rfl) rfl ?_
  refine G.done ?_
  refine G.thenN ?_
  refine G.seq ?_
  refine G.region ?_
  (refine G.v (rv_loadW 1 rfl rfl rfl) rfl ?_)
  (refine G.v (rv_field rfl) rfl ?_)
  (refine G.v (rv_load1 0 rfl rfl rfl) rfl ?_)
  refine G.op (og_callV rfl rfl (fun w hh => typeById_any (r := r) x.1.t w (Rd.stays h2 _ hh))) rfl (fun _ _ => ?_)
  refine G.v (rv_move rfl) rfl ?_
  refine G.v (rv_extract rfl rfl) rfl ?_
  refine G.v (rv_extract rfl rfl) rfl ?_
  refine G.op (og_alloc) rfl (fun bk5 _ => ?_)
  (refine G.op0 (og_st0 rfl rfl rfl rfl rfl rfl (.zero (.cons (.cons (.cons (.cons (.cons (.cons (.cons .nil))))))))) (fun _ _ => ?_))
  refine G.v (rv_assign rfl) rfl ?_
  refine G.done ?_
  refine G.thenN ?_
  refine G.seq ?_
  refine G.seq ?_
  refine G.region ?_
  refine G.v (rv_move rfl) rfl ?_
  refine G.v (rv_not rfl) rfl ?_
  refine G.v (rv_move rfl) rfl ?_
  all_goals (((with_reducible refine G.gP rfl rfl (fun hg => ?_) (fun hg => ?_)) <;> (try exact Bool.noConfusion hg) <;> (first | (refine G.gY rfl rfl ?_; (refine G.v (rv_loadW 2 rfl rfl rfl) rfl ?_)) | refine G.gN rfl rfl rfl ?_)))
  all_goals ((first | (refine G.gY rfl rfl ?_; refine G.op (og_callV rfl rfl (fun w hh => sound_any (r := r) w (Rd.stays h _ hh) (Rd.stays h2 _ hh) (Rd.stays h3 _ hh))) rfl (fun _ _ => ?_)) | refine G.gN rfl rfl rfl ?_))
  all_goals ((first | (refine G.gY rfl rfl ?_; refine G.v (rv_not rfl) rfl ?_) | refine G.gN rfl rfl rfl ?_))
  all_goals ((first | refine G.v (rv_pickT rfl rfl) rfl ?_ | refine G.v (rv_pickF rfl rfl) rfl ?_))
  all_goals
   refine G.done ?_
   refine G.thenN ?_
   refine G.cond rfl (fun hc => ?_) (fun hc => ?_)
   · try exact Bool.noConfusion hc
     all_goals
      try replace hc := of_decide_eq_true hc
      try (exfalso; contradiction)
      all_goals
       have hno : ¬ ((typeAt r x.1.t).2 = true ∧ classM r = 0) := by (clear h h2 h3 h4; simp_all)
       all_goals
        refine G.seq ?_
        refine G.region ?_
        refine G.v (rv_assign rfl) rfl ?_
        refine G.done ?_
        refine G.thenN ?_
        refine G.ret ?_
        refine G.thenR ?_
        exact G.retFV rfl rfl (congrArg (Value.int .i64) (by rw [grossM, if_neg hno]))
   · try exact Bool.noConfusion hc
     all_goals
      try replace hc := of_decide_eq_false hc
      try (exfalso; contradiction)
      all_goals
       have hyes : (typeAt r x.1.t).2 = true ∧ classM r = 0 := by (clear h h2 h3 h4; simp_all)
       have htb := type_at_in hyes
       all_goals
        refine G.skip ?_
        refine G.thenN ?_
        refine G.seq ?_
        refine G.drawL [7] ?_
        (refine GE.q 0 rfl (by as_aux_lemma => kernel_rfl) rfl (qg_runs (rv_field rfl)) rfl ?_)
        (refine GE.q 1 rfl (by as_aux_lemma => kernel_rfl) rfl (qg_runs (rv_load1 0 rfl rfl rfl)) rfl ?_)
        (refine GE.q 2 rfl (by as_aux_lemma => kernel_rfl) rfl (qg_runs (rv_loadW 2 rfl rfl rfl)) rfl ?_)
        (refine GE.ol 3 (by as_aux_lemma => kernel_rfl) rfl rfl (og_runs (rv_field rfl)) rfl (fun _ _ h => by exact h) (fun _ _ => ?_))
        (refine GE.ol 4 (by as_aux_lemma => kernel_rfl) rfl rfl (og_runs (rv_load1 1 rfl rfl rfl)) rfl (fun _ _ h => by exact h) (fun _ _ => ?_))
        refine GE.ol 5 (by as_aux_lemma => kernel_rfl) rfl rfl (og_callV rfl rfl (fun w hh => gramOf_any (r := r) w (Rd.stays h _ hh) (Rd.stays h2 _ hh) (Rd.stays h3 _ hh) (Rd.stays h4 _ hh) hul)) rfl (fun _ _ h => by exact h) (fun _ _ => ?_)
        (refine GE.ol 6 (by as_aux_lemma => kernel_rfl) rfl rfl (og_runs (rv_addB rfl rfl (by omega) (by omega))) rfl (fun _ _ h => by exact h) (fun _ _ => ?_))
        refine GE.t 7 (by as_aux_lemma => kernel_rfl) rfl rfl rfl (og_runs (rv_assign rfl)) rfl (fun _ _ => ?_)
        refine GE.done (by as_aux_lemma => kernel_rfl) ?_
        refine G.thenN ?_
        refine G.ret ?_
        exact G.retFV rfl rfl (congrArg (Value.int .i64) (by rw [grossM, if_pos hyes]))
theorem sgross_any {r : ReqM} {pv tv iv : Value} (x : CartonM × Value) (w : World) (h : Rd w pv 2 (r.pairs.map PairM.cells)) (h2 : Rd w tv 7 (r.types.map TypeM.cells)) (h3 : Rd w iv 7 (r.items.map ItemM.cells)) (h4 : Rd w x.2 1 (x.1.l.map icell)) (hul : x.1.l.length ≤ 1048576) :
    FnV Tryz.prog 36 [.agg (r.cells pv tv iv).toArray, .agg (CartonM.cells x).toArray] w (.int .i64 (grossM r x.1)) := by
  have hgi := gram_in r x.1.l
  refine FnV.of (n := 28) Tryz.func36 rfl rfl ?_
  refine G.seq ?_
  refine G.region ?_
  refine G.op (og_box rfl rfl) rfl (fun bk2 _ => ?_)
  refine G.op (og_box rfl rfl) rfl (fun bk3 _ => ?_)
  refine G.v (rv_assign rfl) rfl ?_
  refine G.done ?_
  refine G.thenN ?_
  refine G.seq ?_
  refine G.region ?_
  (refine G.v (rv_loadW 1 rfl rfl rfl) rfl ?_)
  (refine G.v (rv_field rfl) rfl ?_)
  (refine G.v (rv_load1 0 rfl rfl rfl) rfl ?_)
  refine G.op (og_callV rfl rfl (fun w hh => stypeById_any (r := r) x.1.t w (Rd.stays h2 _ hh))) rfl (fun _ _ => ?_)
  refine G.v (rv_move rfl) rfl ?_
  refine G.v (rv_extract rfl rfl) rfl ?_
  refine G.v (rv_extract rfl rfl) rfl ?_
  refine G.op (og_alloc) rfl (fun bk5 _ => ?_)
  (refine G.op0 (og_st0 rfl rfl rfl rfl rfl rfl (.zero (.cons (.cons (.cons (.cons (.cons (.cons (.cons .nil))))))))) (fun _ _ => ?_))
  refine G.v (rv_assign rfl) rfl ?_
  refine G.done ?_
  refine G.thenN ?_
  refine G.seq ?_
  refine G.seq ?_
  refine G.region ?_
  (refine G.v (rv_loadW 2 rfl rfl rfl) rfl ?_)
  refine G.op (og_callV rfl rfl (fun w hh => sclass_any (r := r) w (Rd.stays h _ hh) (Rd.stays h2 _ hh) (Rd.stays h3 _ hh))) rfl (fun _ _ => ?_)
  refine G.v (rv_neq rfl rfl) rfl ?_
  refine G.v (rv_move rfl) rfl ?_
  all_goals (((with_reducible refine G.gP rfl rfl (fun hg => ?_) (fun hg => ?_)) <;> (try exact Bool.noConfusion hg) <;> (first | (refine G.gY rfl rfl ?_; refine G.v (rv_move rfl) rfl ?_) | refine G.gN rfl rfl rfl ?_)))
  all_goals ((first | (refine G.gY rfl rfl ?_; refine G.v (rv_not rfl) rfl ?_) | refine G.gN rfl rfl rfl ?_))
  all_goals ((first | refine G.v (rv_pickT rfl rfl) rfl ?_ | refine G.v (rv_pickF rfl rfl) rfl ?_))
  all_goals
   refine G.done ?_
   refine G.thenN ?_
   refine G.cond rfl (fun hc => ?_) (fun hc => ?_)
   · try exact Bool.noConfusion hc
     all_goals
      try replace hc := of_decide_eq_true hc
      try (exfalso; contradiction)
      all_goals
       have hno : ¬ ((typeAt r x.1.t).2 = true ∧ classM r = 0) := by (clear h h2 h3 h4; simp_all)
       all_goals
        refine G.seq ?_
        refine G.region ?_
        refine G.v (rv_assign rfl) rfl ?_
        refine G.done ?_
        refine G.thenN ?_
        refine G.ret ?_
        refine G.thenR ?_
        exact G.retFV rfl rfl (congrArg (Value.int .i64) (by rw [grossM, if_neg hno]))
   · try exact Bool.noConfusion hc
     all_goals
      try replace hc := of_decide_eq_false hc
      try (exfalso; contradiction)
      all_goals
       have hyes : (typeAt r x.1.t).2 = true ∧ classM r = 0 := by (clear h h2 h3 h4; simp_all)
       have htb := type_at_in hyes
       all_goals
        refine G.skip ?_
        refine G.thenN ?_
        refine G.seq ?_
        refine G.drawL [7] ?_
        (refine GE.q 0 rfl (by as_aux_lemma => kernel_rfl) rfl (qg_runs (rv_field rfl)) rfl ?_)
        (refine GE.q 1 rfl (by as_aux_lemma => kernel_rfl) rfl (qg_runs (rv_load1 0 rfl rfl rfl)) rfl ?_)
        (refine GE.q 2 rfl (by as_aux_lemma => kernel_rfl) rfl (qg_runs (rv_loadW 2 rfl rfl rfl)) rfl ?_)
        (refine GE.ol 3 (by as_aux_lemma => kernel_rfl) rfl rfl (og_runs (rv_field rfl)) rfl (fun _ _ h => by exact h) (fun _ _ => ?_))
        (refine GE.ol 4 (by as_aux_lemma => kernel_rfl) rfl rfl (og_runs (rv_load1 1 rfl rfl rfl)) rfl (fun _ _ h => by exact h) (fun _ _ => ?_))
        refine GE.ol 5 (by as_aux_lemma => kernel_rfl) rfl rfl (og_callV rfl rfl (fun w hh => sgramOf_any (r := r) w (Rd.stays h _ hh) (Rd.stays h2 _ hh) (Rd.stays h3 _ hh) (Rd.stays h4 _ hh) hul)) rfl (fun _ _ h => by exact h) (fun _ _ => ?_)
        (refine GE.ol 6 (by as_aux_lemma => kernel_rfl) rfl rfl (og_runs (rv_addB rfl rfl (by omega) (by omega))) rfl (fun _ _ h => by exact h) (fun _ _ => ?_))
        refine GE.t 7 (by as_aux_lemma => kernel_rfl) rfl rfl rfl (og_runs (rv_assign rfl)) rfl (fun _ _ => ?_)
        refine GE.done (by as_aux_lemma => kernel_rfl) ?_
        refine G.thenN ?_
        refine G.ret ?_
        exact G.retFV rfl rfl (congrArg (Value.int .i64) (by rw [grossM, if_pos hyes]))
theorem boxOf_any {r : ReqM} {pv tv iv : Value} (x : CartonM × Value) (w : World) (h : Rd w pv 2 (r.pairs.map PairM.cells)) (h2 : Rd w tv 7 (r.types.map TypeM.cells)) (h3 : Rd w iv 7 (r.items.map ItemM.cells)) (h4 : Rd w x.2 1 (x.1.l.map icell)) (hul : x.1.l.length ≤ 1048576) :
    FnV Tryz.prog 12 [.agg (r.cells pv tv iv).toArray, .agg (CartonM.cells x).toArray] w (boxOfM r x.1).val := by
  refine FnV.of (n := 32) Tryz.func12 rfl rfl ?_
  refine G.seq ?_
  refine G.region ?_
  refine G.op (og_box rfl rfl) rfl (fun bk2 _ => ?_)
  refine G.op (og_box rfl rfl) rfl (fun bk3 _ => ?_)
  refine G.op (og_alloc) rfl (fun bk4 _ => ?_)
  refine G.done ?_
  refine G.thenN ?_
  refine G.seq ?_
  refine G.region ?_
  (refine G.v (rv_loadW 2 rfl rfl rfl) rfl ?_)
  (refine G.v (rv_field rfl) rfl ?_)
  (refine G.v (rv_load1 1 rfl rfl rfl) rfl ?_)
  refine G.op (og_callV rfl rfl (fun w hh => typeById_any (r := r) x.1.t w (Rd.stays h2 _ hh))) rfl (fun _ _ => ?_)
  refine G.v (rv_move rfl) rfl ?_
  refine G.v (rv_extract rfl rfl) rfl ?_
  refine G.v (rv_extract rfl rfl) rfl ?_
  refine G.op (og_alloc) rfl (fun bk5 _ => ?_)
  (refine G.op0 (og_st0 rfl rfl rfl rfl rfl rfl (.zero (.cons (.cons (.cons (.cons (.cons (.cons (.cons .nil))))))))) (fun _ _ => ?_))
  refine G.v (rv_assign rfl) rfl ?_
  refine G.done ?_
  refine G.thenN ?_
  refine G.seq ?_
  refine G.seq ?_
  refine G.region ?_
  refine G.v (rv_move rfl) rfl ?_
  refine G.v (rv_not rfl) rfl ?_
  refine G.v (rv_move rfl) rfl ?_
  all_goals (((with_reducible refine G.gP rfl rfl (fun hg => ?_) (fun hg => ?_)) <;> (try exact Bool.noConfusion hg) <;> (first | (refine G.gY rfl rfl ?_; (refine G.v (rv_loadW 3 rfl rfl rfl) rfl ?_)) | refine G.gN rfl rfl rfl ?_)))
  all_goals ((first | (refine G.gY rfl rfl ?_; refine G.op (og_callV rfl rfl (fun w hh => sound_any (r := r) w (Rd.stays h _ hh) (Rd.stays h2 _ hh) (Rd.stays h3 _ hh))) rfl (fun _ _ => ?_)) | refine G.gN rfl rfl rfl ?_))
  all_goals ((first | (refine G.gY rfl rfl ?_; refine G.v (rv_not rfl) rfl ?_) | refine G.gN rfl rfl rfl ?_))
  all_goals ((first | refine G.v (rv_pickT rfl rfl) rfl ?_ | refine G.v (rv_pickF rfl rfl) rfl ?_))
  all_goals
   refine G.done ?_
   refine G.thenN ?_
   refine G.cond rfl (fun hc => ?_) (fun hc => ?_)
   · try exact Bool.noConfusion hc
     all_goals
      try replace hc := of_decide_eq_true hc
      try (exfalso; contradiction)
      all_goals
       have hno : ¬ ((typeAt r x.1.t).2 = true ∧ classM r = 0) := by (clear h h2 h3 h4; simp_all)
       all_goals
        refine G.seq ?_
        refine G.region ?_
        refine G.v (rv_build2 rfl .nil .nil) rfl ?_
        (refine G.op0 (og_st1 rfl rfl rfl rfl rfl rfl (.zero (.cons (.cons (.cons (.cons .nil)))))) (fun _ _ => ?_))
        refine G.done ?_
        refine G.thenN ?_
        refine G.ret ?_
        refine G.thenR ?_
        (rw [boxOfM, if_neg hno]); exact G.retFVc 1 rfl rfl rfl rfl rfl
   · try exact Bool.noConfusion hc
     all_goals
      try replace hc := of_decide_eq_false hc
      try (exfalso; contradiction)
      all_goals
       have hyes : (typeAt r x.1.t).2 = true ∧ classM r = 0 := by (clear h h2 h3 h4; simp_all)
       all_goals
        refine G.skip ?_
        refine G.thenN ?_
        refine G.seq ?_
        refine G.drawL [10] ?_
        (refine GE.q 0 rfl (by as_aux_lemma => kernel_rfl) rfl (qg_runs (rv_field rfl)) rfl ?_)
        (refine GE.q 1 rfl (by as_aux_lemma => kernel_rfl) rfl (qg_runs (rv_load1 0 rfl rfl rfl)) rfl ?_)
        (refine GE.q 2 rfl (by as_aux_lemma => kernel_rfl) rfl (qg_runs (rv_field rfl)) rfl ?_)
        (refine GE.q 3 rfl (by as_aux_lemma => kernel_rfl) rfl (qg_runs (rv_load1 0 rfl rfl rfl)) rfl ?_)
        (refine GE.q 4 rfl (by as_aux_lemma => kernel_rfl) rfl (qg_runs (rv_field rfl)) rfl ?_)
        (refine GE.q 5 rfl (by as_aux_lemma => kernel_rfl) rfl (qg_runs (rv_load1 0 rfl rfl rfl)) rfl ?_)
        (refine GE.q 6 rfl (by as_aux_lemma => kernel_rfl) rfl (qg_runs (rv_loadW 3 rfl rfl rfl)) rfl ?_)
        (refine GE.ol 7 (by as_aux_lemma => kernel_rfl) rfl rfl (og_runs (rv_loadW 2 rfl rfl rfl)) rfl (fun _ _ h => by exact h) (fun _ _ => ?_))
        refine GE.ol 8 (by as_aux_lemma => kernel_rfl) rfl rfl (og_callV rfl rfl (fun w hh => gross_any (r := r) x w (Rd.stays h _ hh) (Rd.stays h2 _ hh) (Rd.stays h3 _ hh) (Rd.stays h4 _ hh) hul)) rfl (fun _ _ h => by exact h) (fun _ _ => ?_)
        refine GE.ol 9 (by as_aux_lemma => kernel_rfl) rfl rfl (og_runs (rv_build2 rfl (.cons rfl (.cons rfl (.cons rfl (.cons rfl .nil)))) (.cons rfl rfl (.zero (.cons .nil)) (.cons rfl rfl (.succ (.zero (.cons .nil))) (.cons rfl rfl (.succ (.succ (.zero (.cons .nil)))) (.cons rfl rfl (.succ (.succ (.succ (.zero (.cons .nil))))) .nil)))))) rfl (fun _ _ h => by exact h) (fun _ _ => ?_)
        (refine GE.t0 10 (by as_aux_lemma => kernel_rfl) rfl rfl rfl (og_st1 rfl rfl rfl rfl rfl rfl (.zero (.cons (.cons (.cons (.cons .nil)))))) (fun _ _ => ?_))
        refine GE.done (by as_aux_lemma => kernel_rfl) ?_
        refine G.thenN ?_
        refine G.ret ?_
        (rw [boxOfM, if_pos hyes]); exact G.retFVc 1 rfl rfl rfl rfl rfl
theorem sboxOf_any {r : ReqM} {pv tv iv : Value} (x : CartonM × Value) (w : World) (h : Rd w pv 2 (r.pairs.map PairM.cells)) (h2 : Rd w tv 7 (r.types.map TypeM.cells)) (h3 : Rd w iv 7 (r.items.map ItemM.cells)) (h4 : Rd w x.2 1 (x.1.l.map icell)) (hul : x.1.l.length ≤ 1048576) :
    FnV Tryz.prog 9 [.agg (r.cells pv tv iv).toArray, .agg (CartonM.cells x).toArray] w (boxOfM r x.1).val := by
  refine FnV.of (n := 32) Tryz.func9 rfl rfl ?_
  refine G.seq ?_
  refine G.region ?_
  refine G.op (og_box rfl rfl) rfl (fun bk2 _ => ?_)
  refine G.op (og_box rfl rfl) rfl (fun bk3 _ => ?_)
  refine G.op (og_alloc) rfl (fun bk4 _ => ?_)
  refine G.done ?_
  refine G.thenN ?_
  refine G.seq ?_
  refine G.region ?_
  (refine G.v (rv_loadW 2 rfl rfl rfl) rfl ?_)
  (refine G.v (rv_field rfl) rfl ?_)
  (refine G.v (rv_load1 1 rfl rfl rfl) rfl ?_)
  refine G.op (og_callV rfl rfl (fun w hh => stypeById_any (r := r) x.1.t w (Rd.stays h2 _ hh))) rfl (fun _ _ => ?_)
  refine G.v (rv_move rfl) rfl ?_
  refine G.v (rv_extract rfl rfl) rfl ?_
  refine G.v (rv_extract rfl rfl) rfl ?_
  refine G.op (og_alloc) rfl (fun bk5 _ => ?_)
  (refine G.op0 (og_st0 rfl rfl rfl rfl rfl rfl (.zero (.cons (.cons (.cons (.cons (.cons (.cons (.cons .nil))))))))) (fun _ _ => ?_))
  refine G.v (rv_assign rfl) rfl ?_
  refine G.done ?_
  refine G.thenN ?_
  refine G.seq ?_
  refine G.seq ?_
  refine G.region ?_
  (refine G.v (rv_loadW 3 rfl rfl rfl) rfl ?_)
  refine G.op (og_callV rfl rfl (fun w hh => sclass_any (r := r) w (Rd.stays h _ hh) (Rd.stays h2 _ hh) (Rd.stays h3 _ hh))) rfl (fun _ _ => ?_)
  refine G.v (rv_neq rfl rfl) rfl ?_
  refine G.v (rv_move rfl) rfl ?_
  all_goals (((with_reducible refine G.gP rfl rfl (fun hg => ?_) (fun hg => ?_)) <;> (try exact Bool.noConfusion hg) <;> (first | (refine G.gY rfl rfl ?_; refine G.v (rv_move rfl) rfl ?_) | refine G.gN rfl rfl rfl ?_)))
  all_goals ((first | (refine G.gY rfl rfl ?_; refine G.v (rv_not rfl) rfl ?_) | refine G.gN rfl rfl rfl ?_))
  all_goals ((first | refine G.v (rv_pickT rfl rfl) rfl ?_ | refine G.v (rv_pickF rfl rfl) rfl ?_))
  all_goals
   refine G.done ?_
   refine G.thenN ?_
   refine G.cond rfl (fun hc => ?_) (fun hc => ?_)
   · try exact Bool.noConfusion hc
     all_goals
      try replace hc := of_decide_eq_true hc
      try (exfalso; contradiction)
      all_goals
       have hno : ¬ ((typeAt r x.1.t).2 = true ∧ classM r = 0) := by (clear h h2 h3 h4; simp_all)
       all_goals
        refine G.seq ?_
        refine G.region ?_
        refine G.v (rv_build2 rfl .nil .nil) rfl ?_
        (refine G.op0 (og_st1 rfl rfl rfl rfl rfl rfl (.zero (.cons (.cons (.cons (.cons .nil)))))) (fun _ _ => ?_))
        refine G.done ?_
        refine G.thenN ?_
        refine G.ret ?_
        refine G.thenR ?_
        (rw [boxOfM, if_neg hno]); exact G.retFVc 1 rfl rfl rfl rfl rfl
   · try exact Bool.noConfusion hc
     all_goals
      try replace hc := of_decide_eq_false hc
      try (exfalso; contradiction)
      all_goals
       have hyes : (typeAt r x.1.t).2 = true ∧ classM r = 0 := by (clear h h2 h3 h4; simp_all)
       all_goals
        refine G.skip ?_
        refine G.thenN ?_
        refine G.seq ?_
        refine G.drawL [10] ?_
        (refine GE.q 0 rfl (by as_aux_lemma => kernel_rfl) rfl (qg_runs (rv_field rfl)) rfl ?_)
        (refine GE.q 1 rfl (by as_aux_lemma => kernel_rfl) rfl (qg_runs (rv_load1 0 rfl rfl rfl)) rfl ?_)
        (refine GE.q 2 rfl (by as_aux_lemma => kernel_rfl) rfl (qg_runs (rv_field rfl)) rfl ?_)
        (refine GE.q 3 rfl (by as_aux_lemma => kernel_rfl) rfl (qg_runs (rv_load1 0 rfl rfl rfl)) rfl ?_)
        (refine GE.q 4 rfl (by as_aux_lemma => kernel_rfl) rfl (qg_runs (rv_field rfl)) rfl ?_)
        (refine GE.q 5 rfl (by as_aux_lemma => kernel_rfl) rfl (qg_runs (rv_load1 0 rfl rfl rfl)) rfl ?_)
        (refine GE.q 6 rfl (by as_aux_lemma => kernel_rfl) rfl (qg_runs (rv_loadW 3 rfl rfl rfl)) rfl ?_)
        (refine GE.ol 7 (by as_aux_lemma => kernel_rfl) rfl rfl (og_runs (rv_loadW 2 rfl rfl rfl)) rfl (fun _ _ h => by exact h) (fun _ _ => ?_))
        refine GE.ol 8 (by as_aux_lemma => kernel_rfl) rfl rfl (og_callV rfl rfl (fun w hh => sgross_any (r := r) x w (Rd.stays h _ hh) (Rd.stays h2 _ hh) (Rd.stays h3 _ hh) (Rd.stays h4 _ hh) hul)) rfl (fun _ _ h => by exact h) (fun _ _ => ?_)
        refine GE.ol 9 (by as_aux_lemma => kernel_rfl) rfl rfl (og_runs (rv_build2 rfl (.cons rfl (.cons rfl (.cons rfl (.cons rfl .nil)))) (.cons rfl rfl (.zero (.cons .nil)) (.cons rfl rfl (.succ (.zero (.cons .nil))) (.cons rfl rfl (.succ (.succ (.zero (.cons .nil)))) (.cons rfl rfl (.succ (.succ (.succ (.zero (.cons .nil))))) .nil)))))) rfl (fun _ _ h => by exact h) (fun _ _ => ?_)
        (refine GE.t0 10 (by as_aux_lemma => kernel_rfl) rfl rfl rfl (og_st1 rfl rfl rfl rfl rfl rfl (.zero (.cons (.cons (.cons (.cons .nil)))))) (fun _ _ => ?_))
        refine GE.done (by as_aux_lemma => kernel_rfl) ?_
        refine G.thenN ?_
        refine G.ret ?_
        (rw [boxOfM, if_pos hyes]); exact G.retFVc 1 rfl rfl rfl rfl rfl
theorem fnExactBoxOf_any {pv tv iv : Value} {w : World} (r : ReqM) (hr : RqRd w r pv tv iv) (x : CartonM × Value) (h4 : Rd w x.2 1 (x.1.l.map icell)) :
    FnV Tryz.prog 3 [.agg (r.cells pv tv iv).toArray, .agg (CartonM.cells x).toArray] w (.bool true) := by
  obtain ⟨h, h2, h3⟩ := hr
  refine FnV.of (n := 46) Tryz.func3 rfl rfl ?_
  refine G.seq ?_
  refine G.region ?_
  refine G.op (og_box rfl rfl) rfl (fun bk2 _ => ?_)
  refine G.op (og_box rfl rfl) rfl (fun bk3 _ => ?_)
  refine G.v (rv_assign rfl) rfl ?_
  refine G.done ?_
  refine G.thenN ?_
  refine G.seq ?_
  refine G.region ?_
  refine G.v (rv_assign rfl) rfl ?_
  refine G.done ?_
  refine G.thenN ?_
  refine G.seq ?_
  refine G.region ?_
  (refine G.v (rv_loadW 1 rfl rfl rfl) rfl ?_)
  refine G.v (rv_move rfl) rfl ?_
  refine G.op (og_callV rfl rfl (fun w hh => szRequest_any (r := r) _ w (Rd.stays h _ hh) (Rd.stays h2 _ hh) (Rd.stays h3 _ hh) (by omega) (by omega))) rfl (fun _ _ => ?_)
  refine G.v (rv_assign rfl) rfl ?_
  refine G.done ?_
  refine G.thenN ?_
  refine G.seq ?_
  refine G.seq ?_
  refine G.region ?_
  refine G.v (rv_move rfl) rfl ?_
  refine G.v (rv_lss rfl rfl) rfl ?_
  refine G.done ?_
  refine G.thenN ?_
  refine G.cond rfl (fun hc => ?_) (fun hc => ?_)
  · try exact Bool.noConfusion hc
    all_goals
     try replace hc := of_decide_eq_true hc
     try (exfalso; contradiction)
     all_goals
      refine G.seq ?_
      refine G.region ?_
      refine G.v (rv_assign rfl) rfl ?_
      refine G.done ?_
      refine G.thenN ?_
      refine G.ret ?_
      refine G.thenR ?_
      exact G.retFV rfl rfl rfl
  · try exact Bool.noConfusion hc
    all_goals
     try replace hc := of_decide_eq_false hc
     try (exfalso; contradiction)
     all_goals
      refine G.skip ?_
      refine G.thenN ?_
      refine G.seq ?_
      refine G.region ?_
      (refine G.v (rv_loadW 0 rfl rfl rfl) rfl ?_)
      refine G.v (rv_move rfl) rfl ?_
      refine G.op (og_callV rfl rfl (fun w hh => szCarton_any x _ w (Rd.stays h4 _ hh) (by (try simp only [szM] at *); omega) (by (try simp only [szM] at *); omega))) rfl (fun _ _ => ?_)
      refine G.v (rv_assign rfl) rfl ?_
      refine G.done ?_
      refine G.thenN ?_
      refine G.seq ?_
      refine G.seq ?_
      refine G.region ?_
      refine G.v (rv_move rfl) rfl ?_
      refine G.v (rv_lss rfl rfl) rfl ?_
      refine G.done ?_
      refine G.thenN ?_
      refine G.cond rfl (fun hc => ?_) (fun hc => ?_)
      · try exact Bool.noConfusion hc
        all_goals
         try replace hc := of_decide_eq_true hc
         try (exfalso; contradiction)
         all_goals
          refine G.seq ?_
          refine G.region ?_
          refine G.v (rv_assign rfl) rfl ?_
          refine G.done ?_
          refine G.thenN ?_
          refine G.ret ?_
          refine G.thenR ?_
          exact G.retFV rfl rfl rfl
      · try exact Bool.noConfusion hc
        all_goals
         try replace hc := of_decide_eq_false hc
         try (exfalso; contradiction)
         all_goals
          refine G.skip ?_
          refine G.thenN ?_
          refine G.seq ?_
          refine G.drawL [6] ?_
          (refine GE.q 0 rfl (by as_aux_lemma => kernel_rfl) rfl (qg_runs (rv_loadW 1 rfl rfl rfl)) rfl ?_)
          (refine GE.q 2 rfl (by as_aux_lemma => kernel_rfl) rfl (qg_runs (rv_loadW 0 rfl rfl rfl)) rfl ?_)
          refine GE.any (rs := [1, 5]) (by as_aux_lemma => kernel_rfl) (by simp) ?_
          refine List.forall_mem_cons.2 ⟨?_, List.forall_mem_cons.2 ⟨?_, fun _ h => absurd h List.not_mem_nil⟩⟩
          ·
            ((refine GE.pickOp rfl rfl rfl (og_callF3 rfl rfl (fun w hh => toRequest_any (r := r) w (Rd.stays h _ hh) (Rd.stays h2 _ hh) (Rd.stays h3 _ hh) (by (try simp only [szM] at *); omega))) rfl (fun _ _ h => by exact h.drop 3) ?_; rintro ⟨pvN, tvN, ivN⟩ ⟨hovN, hov2N, hov3N⟩; try dsimp only))
            refine GE.any (rs := [3, 5]) (by as_aux_lemma => kernel_rfl) (by simp) ?_
            refine List.forall_mem_cons.2 ⟨?_, List.forall_mem_cons.2 ⟨?_, fun _ h => absurd h List.not_mem_nil⟩⟩
            ·
              (first | (refine GE.pickOp rfl rfl rfl (og_callF1 rfl rfl (fun w hh => toCarton_any x w (Rd.stays h4 _ hh) (by (try simp only [szM] at *); omega))) rfl (fun _ _ h => by first | exact h | exact h.drop 1 | exact h.drop 2 | exact h.drop 3 | exact h.drop 4 | exact h.drop 5 | exact h.drop 6 | exact h.drop 7 | exact h.drop 8 | exact h.drop 9 | exact h.drop 10 | exact h.drop 11 | exact h.drop 12 | exact h.drop 13) ?_; rintro vN1 hvN1; try dsimp only) | (refine GE.pickOp rfl rfl rfl (og_callF2 rfl rfl (fun w hh => toCarton_any x w (Rd.stays h4 _ hh) (by (try simp only [szM] at *); omega))) rfl (fun _ _ h => by first | exact h | exact h.drop 1 | exact h.drop 2 | exact h.drop 3 | exact h.drop 4 | exact h.drop 5 | exact h.drop 6 | exact h.drop 7 | exact h.drop 8 | exact h.drop 9 | exact h.drop 10 | exact h.drop 11 | exact h.drop 12 | exact h.drop 13) ?_; rintro vN1 hvN1; try dsimp only) | (refine GE.pickOp rfl rfl rfl (og_callF3 rfl rfl (fun w hh => toCarton_any x w (Rd.stays h4 _ hh) (by (try simp only [szM] at *); omega))) rfl (fun _ _ h => by first | exact h | exact h.drop 1 | exact h.drop 2 | exact h.drop 3 | exact h.drop 4 | exact h.drop 5 | exact h.drop 6 | exact h.drop 7 | exact h.drop 8 | exact h.drop 9 | exact h.drop 10 | exact h.drop 11 | exact h.drop 12 | exact h.drop 13) ?_; rintro vN1 hvN1; try dsimp only) | (refine GE.pickOp rfl rfl rfl (og_callF0 rfl rfl (fun w hh => toCarton_any x w (Rd.stays h4 _ hh) (by (try simp only [szM] at *); omega))) rfl (fun _ _ h => by first | exact h | exact h.drop 1 | exact h.drop 2 | exact h.drop 3 | exact h.drop 4 | exact h.drop 5 | exact h.drop 6 | exact h.drop 7 | exact h.drop 8 | exact h.drop 9 | exact h.drop 10 | exact h.drop 11 | exact h.drop 12 | exact h.drop 13) ?_; rintro vN1 hvN1; try dsimp only) | (refine GE.pickOp rfl rfl rfl (og_callF rfl rfl (fun w hh => toCarton_any x w (Rd.stays h4 _ hh) (by (try simp only [szM] at *); omega))) rfl (fun _ _ h => by first | exact h | exact h.drop 1 | exact h.drop 2 | exact h.drop 3 | exact h.drop 4 | exact h.drop 5 | exact h.drop 6 | exact h.drop 7 | exact h.drop 8 | exact h.drop 9 | exact h.drop 10 | exact h.drop 11 | exact h.drop 12 | exact h.drop 13) ?_; rintro vN1 hvN1; try dsimp only))
              refine GE.any (rs := [4, 5]) (by as_aux_lemma => kernel_rfl) (by simp) ?_
              refine List.forall_mem_cons.2 ⟨?_, List.forall_mem_cons.2 ⟨?_, fun _ h => absurd h List.not_mem_nil⟩⟩
              ·
                (refine GE.pickOp rfl rfl rfl (og_callF0 rfl rfl (fun w hh => (sboxOf_any (r := r) (x.1, _) w (by exact Rd.owned 3 rfl _ hh) (by exact Rd.owned 2 rfl _ hh) (by exact Rd.owned 1 rfl _ hh) (by exact Rd.owned 0 rfl _ hh) (by (try simp only [szM] at *); (try dsimp only); omega)).toFn)) rfl (fun _ _ h => by exact h.drop 4) ?_; rintro ⟨⟩ _; try dsimp only)
                refine GE.ol 5 (by as_aux_lemma => kernel_rfl) rfl rfl (og_alloc) rfl (fun _ _ h => by exact h.drop 5) (fun bk6 _ => ?_)
                (refine GE.t0 6 (by as_aux_lemma => kernel_rfl) rfl rfl rfl (og_st0 rfl rfl rfl rfl rfl rfl (.zero (.cons (.cons (.cons (.cons .nil)))))) (fun _ _ => ?_))
                refine GE.done (by as_aux_lemma => kernel_rfl) ?_
                refine G.thenN ?_
                refine G.seq ?_
                refine G.region ?_
                (refine G.v (rv_loadW 6 rfl rfl rfl) rfl ?_)
                ((refine G.op (og_callF3 rfl rfl (fun w hh => toRequest_any (r := r) w (Rd.stays h _ hh) (Rd.stays h2 _ hh) (Rd.stays h3 _ hh) (by (try simp only [szM] at *); omega))) rfl ?_; rintro ⟨pvN, tvN, ivN⟩ ⟨hovN, hov2N, hov3N⟩; try dsimp only))
                refine G.op (og_alloc) rfl (fun bk7 _ => ?_)
                (refine G.op0 (og_st0 rfl rfl rfl rfl rfl (by repeat (first | rfl | refine one_cons (by first | rfl | assumption) ?_)) (.zero (.cons (.cons (.cons (.cons (.cons (.cons (.cons (.cons (.cons (.cons .nil)))))))))))) (fun _ _ => ?_))
                refine G.done ?_
                refine G.thenN ?_
                refine G.seq ?_
                refine G.region ?_
                (refine G.v (rv_loadW 9 rfl rfl rfl) rfl ?_)
                (first | (refine G.op (og_callF1 rfl rfl (fun w hh => toCarton_any x w (Rd.stays h4 _ hh) (by (try simp only [szM] at *); omega))) rfl ?_; rintro vN2 hvN2; try dsimp only) | (refine G.op (og_callF2 rfl rfl (fun w hh => toCarton_any x w (Rd.stays h4 _ hh) (by (try simp only [szM] at *); omega))) rfl ?_; rintro vN2 hvN2; try dsimp only) | (refine G.op (og_callF3 rfl rfl (fun w hh => toCarton_any x w (Rd.stays h4 _ hh) (by (try simp only [szM] at *); omega))) rfl ?_; rintro vN2 hvN2; try dsimp only) | (refine G.op (og_callF0 rfl rfl (fun w hh => toCarton_any x w (Rd.stays h4 _ hh) (by (try simp only [szM] at *); omega))) rfl ?_; rintro vN2 hvN2; try dsimp only) | (refine G.op (og_callF rfl rfl (fun w hh => toCarton_any x w (Rd.stays h4 _ hh) (by (try simp only [szM] at *); omega))) rfl ?_; rintro vN2 hvN2; try dsimp only))
                refine G.op (og_alloc) rfl (fun bk8 _ => ?_)
                (refine G.op0 (og_st0 rfl rfl rfl rfl rfl (by repeat (first | rfl | refine one_cons (by first | rfl | assumption) ?_)) (.zero (.cons (.cons (.cons .nil))))) (fun _ _ => ?_))
                refine G.done ?_
                refine G.thenN ?_
                refine G.seq ?_
                refine G.region ?_
                (refine G.v (rv_loadW 2 rfl rfl rfl) rfl ?_)
                (refine G.v (rv_loadW 0 rfl rfl rfl) rfl ?_)
                refine G.op (og_callV rfl rfl (fun w hh => boxOf_any (r := r) (x.1, _) w (by exact Rd.owned 5 rfl _ hh) (by exact Rd.owned 4 rfl _ hh) (by exact Rd.owned 3 rfl _ hh) (by exact Rd.owned 1 rfl _ hh) (by (try simp only [szM] at *); (try dsimp only); omega))) rfl (fun _ _ => ?_)
                refine G.op (og_alloc) rfl (fun bk9 _ => ?_)
                (refine G.op0 (og_st0 rfl rfl rfl rfl rfl rfl (.zero (.cons (.cons (.cons (.cons .nil)))))) (fun _ _ => ?_))
                refine G.done ?_
                refine G.thenN ?_
                refine G.seq ?_
                refine G.seq ?_
                refine G.region ?_
                (refine G.v (rv_loadW 0 rfl rfl rfl) rfl ?_)
                (refine G.v (rv_loadW 7 rfl rfl rfl) rfl ?_)
                refine G.op (og_callV rfl rfl (fun w hh => eqBox_any (boxOfM r x.1) (boxOfM r x.1) w)) rfl (fun _ _ => ?_)
                refine G.v (rv_not rfl) rfl ?_
                refine G.done ?_
                refine G.thenN ?_
                refine G.cond rfl (fun hc => ?_) (fun hc => ?_)
                · try exact Bool.noConfusion hc
                  all_goals
                   try replace hc := of_decide_eq_true hc
                   try (exfalso; contradiction)
                   all_goals
                    refine G.seq ?_
                    refine G.region ?_
                    refine G.v (rv_assign rfl) rfl ?_
                    refine G.done ?_
                    refine G.thenN ?_
                    refine G.ret ?_
                    refine G.thenR ?_
                    (exfalso; simp at hc)
                · try exact Bool.noConfusion hc
                  all_goals
                   try replace hc := of_decide_eq_false hc
                   try (exfalso; contradiction)
                   all_goals
                    refine G.skip ?_
                    refine G.thenN ?_
                    refine G.seq ?_
                    refine G.seq ?_
                    refine G.drawL [3] ?_
                    (refine GE.q 0 rfl (by as_aux_lemma => kernel_rfl) rfl (qg_runs (rv_loadW 3 rfl rfl rfl)) rfl ?_)
                    (refine GE.ol 1 (by as_aux_lemma => kernel_rfl) rfl rfl (og_runs (rv_loadW 13 rfl rfl rfl)) rfl (fun _ _ h => by exact h) (fun _ _ => ?_))
                    ((refine GE.ol 2 (by as_aux_lemma => kernel_rfl) rfl rfl (og_callF3 rfl rfl (fun w hh => toRequest_any (r := r) w (Rd.stays h _ hh) (Rd.stays h2 _ hh) (Rd.stays h3 _ hh) (by (try simp only [szM] at *); omega))) rfl (fun _ _ h => by exact h.drop 3) ?_; rintro ⟨pvN, tvN, ivN⟩ ⟨hovN, hov2N, hov3N⟩; try dsimp only))
                    refine GE.t 3 (by as_aux_lemma => kernel_rfl) rfl rfl rfl (og_callV rfl rfl (fun w hh => eqRequest_any (r := r) (s := r) w (by exact Rd.owned 9 rfl _ hh) (by exact Rd.owned 8 rfl _ hh) (by exact Rd.owned 7 rfl _ hh) (by exact Rd.owned 2 rfl _ hh) (by exact Rd.owned 1 rfl _ hh) (by exact Rd.owned 0 rfl _ hh))) rfl (fun _ _ => ?_)
                    refine GE.ol 4 (by as_aux_lemma => kernel_rfl) rfl rfl (og_runs (rv_not rfl)) rfl (fun _ _ h => by exact h.drop 3) (fun _ _ => ?_)
                    refine GE.done (by as_aux_lemma => kernel_rfl) ?_
                    refine G.thenN ?_
                    refine G.cond rfl (fun hc => ?_) (fun hc => ?_)
                    · try exact Bool.noConfusion hc
                      all_goals
                       try replace hc := of_decide_eq_true hc
                       try (exfalso; contradiction)
                       all_goals
                        refine G.seq ?_
                        refine G.region ?_
                        refine G.v (rv_assign rfl) rfl ?_
                        refine G.done ?_
                        refine G.thenN ?_
                        refine G.ret ?_
                        refine G.thenR ?_
                        (exfalso; simp at hc)
                    · try exact Bool.noConfusion hc
                      all_goals
                       try replace hc := of_decide_eq_false hc
                       try (exfalso; contradiction)
                       all_goals
                        refine G.skip ?_
                        refine G.thenN ?_
                        refine G.seq ?_
                        refine G.seq ?_
                        refine G.drawL [3] ?_
                        (refine GE.q 0 rfl (by as_aux_lemma => kernel_rfl) rfl (qg_runs (rv_loadW 4 rfl rfl rfl)) rfl ?_)
                        (refine GE.ol 1 (by as_aux_lemma => kernel_rfl) rfl rfl (og_runs (rv_loadW 15 rfl rfl rfl)) rfl (fun _ _ h => by exact h) (fun _ _ => ?_))
                        (first | (refine GE.ol 2 (by as_aux_lemma => kernel_rfl) rfl rfl (og_callF1 rfl rfl (fun w hh => toCarton_any x w (Rd.stays h4 _ hh) (by (try simp only [szM] at *); omega))) rfl (fun _ _ h => by first | exact h | exact h.drop 1 | exact h.drop 2 | exact h.drop 3 | exact h.drop 4 | exact h.drop 5 | exact h.drop 6 | exact h.drop 7 | exact h.drop 8 | exact h.drop 9 | exact h.drop 10 | exact h.drop 11 | exact h.drop 12 | exact h.drop 13) ?_; rintro vN3 hvN3; try dsimp only) | (refine GE.ol 2 (by as_aux_lemma => kernel_rfl) rfl rfl (og_callF2 rfl rfl (fun w hh => toCarton_any x w (Rd.stays h4 _ hh) (by (try simp only [szM] at *); omega))) rfl (fun _ _ h => by first | exact h | exact h.drop 1 | exact h.drop 2 | exact h.drop 3 | exact h.drop 4 | exact h.drop 5 | exact h.drop 6 | exact h.drop 7 | exact h.drop 8 | exact h.drop 9 | exact h.drop 10 | exact h.drop 11 | exact h.drop 12 | exact h.drop 13) ?_; rintro vN3 hvN3; try dsimp only) | (refine GE.ol 2 (by as_aux_lemma => kernel_rfl) rfl rfl (og_callF3 rfl rfl (fun w hh => toCarton_any x w (Rd.stays h4 _ hh) (by (try simp only [szM] at *); omega))) rfl (fun _ _ h => by first | exact h | exact h.drop 1 | exact h.drop 2 | exact h.drop 3 | exact h.drop 4 | exact h.drop 5 | exact h.drop 6 | exact h.drop 7 | exact h.drop 8 | exact h.drop 9 | exact h.drop 10 | exact h.drop 11 | exact h.drop 12 | exact h.drop 13) ?_; rintro vN3 hvN3; try dsimp only) | (refine GE.ol 2 (by as_aux_lemma => kernel_rfl) rfl rfl (og_callF0 rfl rfl (fun w hh => toCarton_any x w (Rd.stays h4 _ hh) (by (try simp only [szM] at *); omega))) rfl (fun _ _ h => by first | exact h | exact h.drop 1 | exact h.drop 2 | exact h.drop 3 | exact h.drop 4 | exact h.drop 5 | exact h.drop 6 | exact h.drop 7 | exact h.drop 8 | exact h.drop 9 | exact h.drop 10 | exact h.drop 11 | exact h.drop 12 | exact h.drop 13) ?_; rintro vN3 hvN3; try dsimp only) | (refine GE.ol 2 (by as_aux_lemma => kernel_rfl) rfl rfl (og_callF rfl rfl (fun w hh => toCarton_any x w (Rd.stays h4 _ hh) (by (try simp only [szM] at *); omega))) rfl (fun _ _ h => by first | exact h | exact h.drop 1 | exact h.drop 2 | exact h.drop 3 | exact h.drop 4 | exact h.drop 5 | exact h.drop 6 | exact h.drop 7 | exact h.drop 8 | exact h.drop 9 | exact h.drop 10 | exact h.drop 11 | exact h.drop 12 | exact h.drop 13) ?_; rintro vN3 hvN3; try dsimp only))
                        refine GE.t 3 (by as_aux_lemma => kernel_rfl) rfl rfl rfl (og_callV rfl rfl (fun w hh => eqCarton_any (x.1, vN2) (x.1, vN3) w (by exact Rd.owned 6 rfl _ hh) (by exact Rd.owned 0 rfl _ hh))) rfl (fun _ _ => ?_)
                        refine GE.ol 4 (by as_aux_lemma => kernel_rfl) rfl rfl (og_runs (rv_not rfl)) rfl (fun _ _ h => by exact h.drop 1) (fun _ _ => ?_)
                        refine GE.done (by as_aux_lemma => kernel_rfl) ?_
                        refine G.thenN ?_
                        refine G.cond rfl (fun hc => ?_) (fun hc => ?_)
                        · try exact Bool.noConfusion hc
                          all_goals
                           try replace hc := of_decide_eq_true hc
                           try (exfalso; contradiction)
                           all_goals
                            refine G.seq ?_
                            refine G.region ?_
                            refine G.v (rv_assign rfl) rfl ?_
                            refine G.done ?_
                            refine G.thenN ?_
                            refine G.ret ?_
                            refine G.thenR ?_
                            (exfalso; simp at hc)
                        · try exact Bool.noConfusion hc
                          all_goals
                           try replace hc := of_decide_eq_false hc
                           try (exfalso; contradiction)
                           all_goals
                            refine G.skip ?_
                            refine G.thenN ?_
                            refine G.seq ?_
                            refine G.region ?_
                            refine G.v (rv_assign rfl) rfl ?_
                            refine G.done ?_
                            refine G.thenN ?_
                            refine G.ret ?_
                            exact G.retFV rfl rfl rfl
              ·
                refine GE.pickOp rfl rfl rfl (og_alloc) rfl (fun _ _ h => by exact h.drop 5) (fun bk6 _ => ?_)
                (refine GE.ol 4 (by as_aux_lemma => kernel_rfl) rfl rfl (og_callF0 rfl rfl (fun w hh => (sboxOf_any (r := r) (x.1, _) w (by exact Rd.owned 4 rfl _ hh) (by exact Rd.owned 3 rfl _ hh) (by exact Rd.owned 2 rfl _ hh) (by exact Rd.owned 1 rfl _ hh) (by (try simp only [szM] at *); (try dsimp only); omega)).toFn)) rfl (fun _ _ h => by exact h.drop 5) ?_; rintro ⟨⟩ _; try dsimp only)
                (refine GE.t0 6 (by as_aux_lemma => kernel_rfl) rfl rfl rfl (og_st0 rfl rfl rfl rfl rfl rfl (.zero (.cons (.cons (.cons (.cons .nil)))))) (fun _ _ => ?_))
                refine GE.done (by as_aux_lemma => kernel_rfl) ?_
                refine G.thenN ?_
                refine G.seq ?_
                refine G.region ?_
                (refine G.v (rv_loadW 6 rfl rfl rfl) rfl ?_)
                ((refine G.op (og_callF3 rfl rfl (fun w hh => toRequest_any (r := r) w (Rd.stays h _ hh) (Rd.stays h2 _ hh) (Rd.stays h3 _ hh) (by (try simp only [szM] at *); omega))) rfl ?_; rintro ⟨pvN, tvN, ivN⟩ ⟨hovN, hov2N, hov3N⟩; try dsimp only))
                refine G.op (og_alloc) rfl (fun bk7 _ => ?_)
                (refine G.op0 (og_st0 rfl rfl rfl rfl rfl (by repeat (first | rfl | refine one_cons (by first | rfl | assumption) ?_)) (.zero (.cons (.cons (.cons (.cons (.cons (.cons (.cons (.cons (.cons (.cons .nil)))))))))))) (fun _ _ => ?_))
                refine G.done ?_
                refine G.thenN ?_
                refine G.seq ?_
                refine G.region ?_
                (refine G.v (rv_loadW 9 rfl rfl rfl) rfl ?_)
                (first | (refine G.op (og_callF1 rfl rfl (fun w hh => toCarton_any x w (Rd.stays h4 _ hh) (by (try simp only [szM] at *); omega))) rfl ?_; rintro vN2 hvN2; try dsimp only) | (refine G.op (og_callF2 rfl rfl (fun w hh => toCarton_any x w (Rd.stays h4 _ hh) (by (try simp only [szM] at *); omega))) rfl ?_; rintro vN2 hvN2; try dsimp only) | (refine G.op (og_callF3 rfl rfl (fun w hh => toCarton_any x w (Rd.stays h4 _ hh) (by (try simp only [szM] at *); omega))) rfl ?_; rintro vN2 hvN2; try dsimp only) | (refine G.op (og_callF0 rfl rfl (fun w hh => toCarton_any x w (Rd.stays h4 _ hh) (by (try simp only [szM] at *); omega))) rfl ?_; rintro vN2 hvN2; try dsimp only) | (refine G.op (og_callF rfl rfl (fun w hh => toCarton_any x w (Rd.stays h4 _ hh) (by (try simp only [szM] at *); omega))) rfl ?_; rintro vN2 hvN2; try dsimp only))
                refine G.op (og_alloc) rfl (fun bk8 _ => ?_)
                (refine G.op0 (og_st0 rfl rfl rfl rfl rfl (by repeat (first | rfl | refine one_cons (by first | rfl | assumption) ?_)) (.zero (.cons (.cons (.cons .nil))))) (fun _ _ => ?_))
                refine G.done ?_
                refine G.thenN ?_
                refine G.seq ?_
                refine G.region ?_
                (refine G.v (rv_loadW 2 rfl rfl rfl) rfl ?_)
                (refine G.v (rv_loadW 0 rfl rfl rfl) rfl ?_)
                refine G.op (og_callV rfl rfl (fun w hh => boxOf_any (r := r) (x.1, _) w (by exact Rd.owned 5 rfl _ hh) (by exact Rd.owned 4 rfl _ hh) (by exact Rd.owned 3 rfl _ hh) (by exact Rd.owned 1 rfl _ hh) (by (try simp only [szM] at *); (try dsimp only); omega))) rfl (fun _ _ => ?_)
                refine G.op (og_alloc) rfl (fun bk9 _ => ?_)
                (refine G.op0 (og_st0 rfl rfl rfl rfl rfl rfl (.zero (.cons (.cons (.cons (.cons .nil)))))) (fun _ _ => ?_))
                refine G.done ?_
                refine G.thenN ?_
                refine G.seq ?_
                refine G.seq ?_
                refine G.region ?_
                (refine G.v (rv_loadW 0 rfl rfl rfl) rfl ?_)
                (refine G.v (rv_loadW 7 rfl rfl rfl) rfl ?_)
                refine G.op (og_callV rfl rfl (fun w hh => eqBox_any (boxOfM r x.1) (boxOfM r x.1) w)) rfl (fun _ _ => ?_)
                refine G.v (rv_not rfl) rfl ?_
                refine G.done ?_
                refine G.thenN ?_
                refine G.cond rfl (fun hc => ?_) (fun hc => ?_)
                · try exact Bool.noConfusion hc
                  all_goals
                   try replace hc := of_decide_eq_true hc
                   try (exfalso; contradiction)
                   all_goals
                    refine G.seq ?_
                    refine G.region ?_
                    refine G.v (rv_assign rfl) rfl ?_
                    refine G.done ?_
                    refine G.thenN ?_
                    refine G.ret ?_
                    refine G.thenR ?_
                    (exfalso; simp at hc)
                · try exact Bool.noConfusion hc
                  all_goals
                   try replace hc := of_decide_eq_false hc
                   try (exfalso; contradiction)
                   all_goals
                    refine G.skip ?_
                    refine G.thenN ?_
                    refine G.seq ?_
                    refine G.seq ?_
                    refine G.drawL [3] ?_
                    (refine GE.q 0 rfl (by as_aux_lemma => kernel_rfl) rfl (qg_runs (rv_loadW 3 rfl rfl rfl)) rfl ?_)
                    (refine GE.ol 1 (by as_aux_lemma => kernel_rfl) rfl rfl (og_runs (rv_loadW 13 rfl rfl rfl)) rfl (fun _ _ h => by exact h) (fun _ _ => ?_))
                    ((refine GE.ol 2 (by as_aux_lemma => kernel_rfl) rfl rfl (og_callF3 rfl rfl (fun w hh => toRequest_any (r := r) w (Rd.stays h _ hh) (Rd.stays h2 _ hh) (Rd.stays h3 _ hh) (by (try simp only [szM] at *); omega))) rfl (fun _ _ h => by exact h.drop 3) ?_; rintro ⟨pvN, tvN, ivN⟩ ⟨hovN, hov2N, hov3N⟩; try dsimp only))
                    refine GE.t 3 (by as_aux_lemma => kernel_rfl) rfl rfl rfl (og_callV rfl rfl (fun w hh => eqRequest_any (r := r) (s := r) w (by exact Rd.owned 9 rfl _ hh) (by exact Rd.owned 8 rfl _ hh) (by exact Rd.owned 7 rfl _ hh) (by exact Rd.owned 2 rfl _ hh) (by exact Rd.owned 1 rfl _ hh) (by exact Rd.owned 0 rfl _ hh))) rfl (fun _ _ => ?_)
                    refine GE.ol 4 (by as_aux_lemma => kernel_rfl) rfl rfl (og_runs (rv_not rfl)) rfl (fun _ _ h => by exact h.drop 3) (fun _ _ => ?_)
                    refine GE.done (by as_aux_lemma => kernel_rfl) ?_
                    refine G.thenN ?_
                    refine G.cond rfl (fun hc => ?_) (fun hc => ?_)
                    · try exact Bool.noConfusion hc
                      all_goals
                       try replace hc := of_decide_eq_true hc
                       try (exfalso; contradiction)
                       all_goals
                        refine G.seq ?_
                        refine G.region ?_
                        refine G.v (rv_assign rfl) rfl ?_
                        refine G.done ?_
                        refine G.thenN ?_
                        refine G.ret ?_
                        refine G.thenR ?_
                        (exfalso; simp at hc)
                    · try exact Bool.noConfusion hc
                      all_goals
                       try replace hc := of_decide_eq_false hc
                       try (exfalso; contradiction)
                       all_goals
                        refine G.skip ?_
                        refine G.thenN ?_
                        refine G.seq ?_
                        refine G.seq ?_
                        refine G.drawL [3] ?_
                        (refine GE.q 0 rfl (by as_aux_lemma => kernel_rfl) rfl (qg_runs (rv_loadW 4 rfl rfl rfl)) rfl ?_)
                        (refine GE.ol 1 (by as_aux_lemma => kernel_rfl) rfl rfl (og_runs (rv_loadW 15 rfl rfl rfl)) rfl (fun _ _ h => by exact h) (fun _ _ => ?_))
                        (first | (refine GE.ol 2 (by as_aux_lemma => kernel_rfl) rfl rfl (og_callF1 rfl rfl (fun w hh => toCarton_any x w (Rd.stays h4 _ hh) (by (try simp only [szM] at *); omega))) rfl (fun _ _ h => by first | exact h | exact h.drop 1 | exact h.drop 2 | exact h.drop 3 | exact h.drop 4 | exact h.drop 5 | exact h.drop 6 | exact h.drop 7 | exact h.drop 8 | exact h.drop 9 | exact h.drop 10 | exact h.drop 11 | exact h.drop 12 | exact h.drop 13) ?_; rintro vN3 hvN3; try dsimp only) | (refine GE.ol 2 (by as_aux_lemma => kernel_rfl) rfl rfl (og_callF2 rfl rfl (fun w hh => toCarton_any x w (Rd.stays h4 _ hh) (by (try simp only [szM] at *); omega))) rfl (fun _ _ h => by first | exact h | exact h.drop 1 | exact h.drop 2 | exact h.drop 3 | exact h.drop 4 | exact h.drop 5 | exact h.drop 6 | exact h.drop 7 | exact h.drop 8 | exact h.drop 9 | exact h.drop 10 | exact h.drop 11 | exact h.drop 12 | exact h.drop 13) ?_; rintro vN3 hvN3; try dsimp only) | (refine GE.ol 2 (by as_aux_lemma => kernel_rfl) rfl rfl (og_callF3 rfl rfl (fun w hh => toCarton_any x w (Rd.stays h4 _ hh) (by (try simp only [szM] at *); omega))) rfl (fun _ _ h => by first | exact h | exact h.drop 1 | exact h.drop 2 | exact h.drop 3 | exact h.drop 4 | exact h.drop 5 | exact h.drop 6 | exact h.drop 7 | exact h.drop 8 | exact h.drop 9 | exact h.drop 10 | exact h.drop 11 | exact h.drop 12 | exact h.drop 13) ?_; rintro vN3 hvN3; try dsimp only) | (refine GE.ol 2 (by as_aux_lemma => kernel_rfl) rfl rfl (og_callF0 rfl rfl (fun w hh => toCarton_any x w (Rd.stays h4 _ hh) (by (try simp only [szM] at *); omega))) rfl (fun _ _ h => by first | exact h | exact h.drop 1 | exact h.drop 2 | exact h.drop 3 | exact h.drop 4 | exact h.drop 5 | exact h.drop 6 | exact h.drop 7 | exact h.drop 8 | exact h.drop 9 | exact h.drop 10 | exact h.drop 11 | exact h.drop 12 | exact h.drop 13) ?_; rintro vN3 hvN3; try dsimp only) | (refine GE.ol 2 (by as_aux_lemma => kernel_rfl) rfl rfl (og_callF rfl rfl (fun w hh => toCarton_any x w (Rd.stays h4 _ hh) (by (try simp only [szM] at *); omega))) rfl (fun _ _ h => by first | exact h | exact h.drop 1 | exact h.drop 2 | exact h.drop 3 | exact h.drop 4 | exact h.drop 5 | exact h.drop 6 | exact h.drop 7 | exact h.drop 8 | exact h.drop 9 | exact h.drop 10 | exact h.drop 11 | exact h.drop 12 | exact h.drop 13) ?_; rintro vN3 hvN3; try dsimp only))
                        refine GE.t 3 (by as_aux_lemma => kernel_rfl) rfl rfl rfl (og_callV rfl rfl (fun w hh => eqCarton_any (x.1, vN2) (x.1, vN3) w (by exact Rd.owned 6 rfl _ hh) (by exact Rd.owned 0 rfl _ hh))) rfl (fun _ _ => ?_)
                        refine GE.ol 4 (by as_aux_lemma => kernel_rfl) rfl rfl (og_runs (rv_not rfl)) rfl (fun _ _ h => by exact h.drop 1) (fun _ _ => ?_)
                        refine GE.done (by as_aux_lemma => kernel_rfl) ?_
                        refine G.thenN ?_
                        refine G.cond rfl (fun hc => ?_) (fun hc => ?_)
                        · try exact Bool.noConfusion hc
                          all_goals
                           try replace hc := of_decide_eq_true hc
                           try (exfalso; contradiction)
                           all_goals
                            refine G.seq ?_
                            refine G.region ?_
                            refine G.v (rv_assign rfl) rfl ?_
                            refine G.done ?_
                            refine G.thenN ?_
                            refine G.ret ?_
                            refine G.thenR ?_
                            (exfalso; simp at hc)
                        · try exact Bool.noConfusion hc
                          all_goals
                           try replace hc := of_decide_eq_false hc
                           try (exfalso; contradiction)
                           all_goals
                            refine G.skip ?_
                            refine G.thenN ?_
                            refine G.seq ?_
                            refine G.region ?_
                            refine G.v (rv_assign rfl) rfl ?_
                            refine G.done ?_
                            refine G.thenN ?_
                            refine G.ret ?_
                            exact G.retFV rfl rfl rfl
            ·
              refine GE.pickOp rfl rfl rfl (og_alloc) rfl (fun _ _ h => by exact h.drop 4) (fun bk6 _ => ?_)
              (first | (refine GE.ol 3 (by as_aux_lemma => kernel_rfl) rfl rfl (og_callF1 rfl rfl (fun w hh => toCarton_any x w (Rd.stays h4 _ hh) (by (try simp only [szM] at *); omega))) rfl (fun _ _ h => by first | exact h | exact h.drop 1 | exact h.drop 2 | exact h.drop 3 | exact h.drop 4 | exact h.drop 5 | exact h.drop 6 | exact h.drop 7 | exact h.drop 8 | exact h.drop 9 | exact h.drop 10 | exact h.drop 11 | exact h.drop 12 | exact h.drop 13) ?_; rintro vN1 hvN1; try dsimp only) | (refine GE.ol 3 (by as_aux_lemma => kernel_rfl) rfl rfl (og_callF2 rfl rfl (fun w hh => toCarton_any x w (Rd.stays h4 _ hh) (by (try simp only [szM] at *); omega))) rfl (fun _ _ h => by first | exact h | exact h.drop 1 | exact h.drop 2 | exact h.drop 3 | exact h.drop 4 | exact h.drop 5 | exact h.drop 6 | exact h.drop 7 | exact h.drop 8 | exact h.drop 9 | exact h.drop 10 | exact h.drop 11 | exact h.drop 12 | exact h.drop 13) ?_; rintro vN1 hvN1; try dsimp only) | (refine GE.ol 3 (by as_aux_lemma => kernel_rfl) rfl rfl (og_callF3 rfl rfl (fun w hh => toCarton_any x w (Rd.stays h4 _ hh) (by (try simp only [szM] at *); omega))) rfl (fun _ _ h => by first | exact h | exact h.drop 1 | exact h.drop 2 | exact h.drop 3 | exact h.drop 4 | exact h.drop 5 | exact h.drop 6 | exact h.drop 7 | exact h.drop 8 | exact h.drop 9 | exact h.drop 10 | exact h.drop 11 | exact h.drop 12 | exact h.drop 13) ?_; rintro vN1 hvN1; try dsimp only) | (refine GE.ol 3 (by as_aux_lemma => kernel_rfl) rfl rfl (og_callF0 rfl rfl (fun w hh => toCarton_any x w (Rd.stays h4 _ hh) (by (try simp only [szM] at *); omega))) rfl (fun _ _ h => by first | exact h | exact h.drop 1 | exact h.drop 2 | exact h.drop 3 | exact h.drop 4 | exact h.drop 5 | exact h.drop 6 | exact h.drop 7 | exact h.drop 8 | exact h.drop 9 | exact h.drop 10 | exact h.drop 11 | exact h.drop 12 | exact h.drop 13) ?_; rintro vN1 hvN1; try dsimp only) | (refine GE.ol 3 (by as_aux_lemma => kernel_rfl) rfl rfl (og_callF rfl rfl (fun w hh => toCarton_any x w (Rd.stays h4 _ hh) (by (try simp only [szM] at *); omega))) rfl (fun _ _ h => by first | exact h | exact h.drop 1 | exact h.drop 2 | exact h.drop 3 | exact h.drop 4 | exact h.drop 5 | exact h.drop 6 | exact h.drop 7 | exact h.drop 8 | exact h.drop 9 | exact h.drop 10 | exact h.drop 11 | exact h.drop 12 | exact h.drop 13) ?_; rintro vN1 hvN1; try dsimp only))
              (refine GE.ol 4 (by as_aux_lemma => kernel_rfl) rfl rfl (og_callF0 rfl rfl (fun w hh => (sboxOf_any (r := r) (x.1, _) w (by exact Rd.owned 4 rfl _ hh) (by exact Rd.owned 3 rfl _ hh) (by exact Rd.owned 2 rfl _ hh) (by exact Rd.owned 0 rfl _ hh) (by (try simp only [szM] at *); (try dsimp only); omega)).toFn)) rfl (fun _ _ h => by exact h.drop 5) ?_; rintro ⟨⟩ _; try dsimp only)
              (refine GE.t0 6 (by as_aux_lemma => kernel_rfl) rfl rfl rfl (og_st1 rfl rfl rfl rfl rfl rfl (.zero (.cons (.cons (.cons (.cons .nil)))))) (fun _ _ => ?_))
              refine GE.done (by as_aux_lemma => kernel_rfl) ?_
              refine G.thenN ?_
              refine G.seq ?_
              refine G.region ?_
              (refine G.v (rv_loadW 6 rfl rfl rfl) rfl ?_)
              ((refine G.op (og_callF3 rfl rfl (fun w hh => toRequest_any (r := r) w (Rd.stays h _ hh) (Rd.stays h2 _ hh) (Rd.stays h3 _ hh) (by (try simp only [szM] at *); omega))) rfl ?_; rintro ⟨pvN, tvN, ivN⟩ ⟨hovN, hov2N, hov3N⟩; try dsimp only))
              refine G.op (og_alloc) rfl (fun bk7 _ => ?_)
              (refine G.op0 (og_st0 rfl rfl rfl rfl rfl (by repeat (first | rfl | refine one_cons (by first | rfl | assumption) ?_)) (.zero (.cons (.cons (.cons (.cons (.cons (.cons (.cons (.cons (.cons (.cons .nil)))))))))))) (fun _ _ => ?_))
              refine G.done ?_
              refine G.thenN ?_
              refine G.seq ?_
              refine G.region ?_
              (refine G.v (rv_loadW 9 rfl rfl rfl) rfl ?_)
              (first | (refine G.op (og_callF1 rfl rfl (fun w hh => toCarton_any x w (Rd.stays h4 _ hh) (by (try simp only [szM] at *); omega))) rfl ?_; rintro vN2 hvN2; try dsimp only) | (refine G.op (og_callF2 rfl rfl (fun w hh => toCarton_any x w (Rd.stays h4 _ hh) (by (try simp only [szM] at *); omega))) rfl ?_; rintro vN2 hvN2; try dsimp only) | (refine G.op (og_callF3 rfl rfl (fun w hh => toCarton_any x w (Rd.stays h4 _ hh) (by (try simp only [szM] at *); omega))) rfl ?_; rintro vN2 hvN2; try dsimp only) | (refine G.op (og_callF0 rfl rfl (fun w hh => toCarton_any x w (Rd.stays h4 _ hh) (by (try simp only [szM] at *); omega))) rfl ?_; rintro vN2 hvN2; try dsimp only) | (refine G.op (og_callF rfl rfl (fun w hh => toCarton_any x w (Rd.stays h4 _ hh) (by (try simp only [szM] at *); omega))) rfl ?_; rintro vN2 hvN2; try dsimp only))
              refine G.op (og_alloc) rfl (fun bk8 _ => ?_)
              (refine G.op0 (og_st0 rfl rfl rfl rfl rfl (by repeat (first | rfl | refine one_cons (by first | rfl | assumption) ?_)) (.zero (.cons (.cons (.cons .nil))))) (fun _ _ => ?_))
              refine G.done ?_
              refine G.thenN ?_
              refine G.seq ?_
              refine G.region ?_
              (refine G.v (rv_loadW 2 rfl rfl rfl) rfl ?_)
              (refine G.v (rv_loadW 0 rfl rfl rfl) rfl ?_)
              refine G.op (og_callV rfl rfl (fun w hh => boxOf_any (r := r) (x.1, _) w (by exact Rd.owned 5 rfl _ hh) (by exact Rd.owned 4 rfl _ hh) (by exact Rd.owned 3 rfl _ hh) (by exact Rd.owned 1 rfl _ hh) (by (try simp only [szM] at *); (try dsimp only); omega))) rfl (fun _ _ => ?_)
              refine G.op (og_alloc) rfl (fun bk9 _ => ?_)
              (refine G.op0 (og_st0 rfl rfl rfl rfl rfl rfl (.zero (.cons (.cons (.cons (.cons .nil)))))) (fun _ _ => ?_))
              refine G.done ?_
              refine G.thenN ?_
              refine G.seq ?_
              refine G.seq ?_
              refine G.region ?_
              (refine G.v (rv_loadW 0 rfl rfl rfl) rfl ?_)
              (refine G.v (rv_loadW 8 rfl rfl rfl) rfl ?_)
              refine G.op (og_callV rfl rfl (fun w hh => eqBox_any (boxOfM r x.1) (boxOfM r x.1) w)) rfl (fun _ _ => ?_)
              refine G.v (rv_not rfl) rfl ?_
              refine G.done ?_
              refine G.thenN ?_
              refine G.cond rfl (fun hc => ?_) (fun hc => ?_)
              · try exact Bool.noConfusion hc
                all_goals
                 try replace hc := of_decide_eq_true hc
                 try (exfalso; contradiction)
                 all_goals
                  refine G.seq ?_
                  refine G.region ?_
                  refine G.v (rv_assign rfl) rfl ?_
                  refine G.done ?_
                  refine G.thenN ?_
                  refine G.ret ?_
                  refine G.thenR ?_
                  (exfalso; simp at hc)
              · try exact Bool.noConfusion hc
                all_goals
                 try replace hc := of_decide_eq_false hc
                 try (exfalso; contradiction)
                 all_goals
                  refine G.skip ?_
                  refine G.thenN ?_
                  refine G.seq ?_
                  refine G.seq ?_
                  refine G.drawL [3] ?_
                  (refine GE.q 0 rfl (by as_aux_lemma => kernel_rfl) rfl (qg_runs (rv_loadW 3 rfl rfl rfl)) rfl ?_)
                  (refine GE.ol 1 (by as_aux_lemma => kernel_rfl) rfl rfl (og_runs (rv_loadW 13 rfl rfl rfl)) rfl (fun _ _ h => by exact h) (fun _ _ => ?_))
                  ((refine GE.ol 2 (by as_aux_lemma => kernel_rfl) rfl rfl (og_callF3 rfl rfl (fun w hh => toRequest_any (r := r) w (Rd.stays h _ hh) (Rd.stays h2 _ hh) (Rd.stays h3 _ hh) (by (try simp only [szM] at *); omega))) rfl (fun _ _ h => by exact h.drop 3) ?_; rintro ⟨pvN, tvN, ivN⟩ ⟨hovN, hov2N, hov3N⟩; try dsimp only))
                  refine GE.t 3 (by as_aux_lemma => kernel_rfl) rfl rfl rfl (og_callV rfl rfl (fun w hh => eqRequest_any (r := r) (s := r) w (by exact Rd.owned 9 rfl _ hh) (by exact Rd.owned 8 rfl _ hh) (by exact Rd.owned 7 rfl _ hh) (by exact Rd.owned 2 rfl _ hh) (by exact Rd.owned 1 rfl _ hh) (by exact Rd.owned 0 rfl _ hh))) rfl (fun _ _ => ?_)
                  refine GE.ol 4 (by as_aux_lemma => kernel_rfl) rfl rfl (og_runs (rv_not rfl)) rfl (fun _ _ h => by exact h.drop 3) (fun _ _ => ?_)
                  refine GE.done (by as_aux_lemma => kernel_rfl) ?_
                  refine G.thenN ?_
                  refine G.cond rfl (fun hc => ?_) (fun hc => ?_)
                  · try exact Bool.noConfusion hc
                    all_goals
                     try replace hc := of_decide_eq_true hc
                     try (exfalso; contradiction)
                     all_goals
                      refine G.seq ?_
                      refine G.region ?_
                      refine G.v (rv_assign rfl) rfl ?_
                      refine G.done ?_
                      refine G.thenN ?_
                      refine G.ret ?_
                      refine G.thenR ?_
                      (exfalso; simp at hc)
                  · try exact Bool.noConfusion hc
                    all_goals
                     try replace hc := of_decide_eq_false hc
                     try (exfalso; contradiction)
                     all_goals
                      refine G.skip ?_
                      refine G.thenN ?_
                      refine G.seq ?_
                      refine G.seq ?_
                      refine G.drawL [3] ?_
                      (refine GE.q 0 rfl (by as_aux_lemma => kernel_rfl) rfl (qg_runs (rv_loadW 4 rfl rfl rfl)) rfl ?_)
                      (refine GE.ol 1 (by as_aux_lemma => kernel_rfl) rfl rfl (og_runs (rv_loadW 15 rfl rfl rfl)) rfl (fun _ _ h => by exact h) (fun _ _ => ?_))
                      (first | (refine GE.ol 2 (by as_aux_lemma => kernel_rfl) rfl rfl (og_callF1 rfl rfl (fun w hh => toCarton_any x w (Rd.stays h4 _ hh) (by (try simp only [szM] at *); omega))) rfl (fun _ _ h => by first | exact h | exact h.drop 1 | exact h.drop 2 | exact h.drop 3 | exact h.drop 4 | exact h.drop 5 | exact h.drop 6 | exact h.drop 7 | exact h.drop 8 | exact h.drop 9 | exact h.drop 10 | exact h.drop 11 | exact h.drop 12 | exact h.drop 13) ?_; rintro vN3 hvN3; try dsimp only) | (refine GE.ol 2 (by as_aux_lemma => kernel_rfl) rfl rfl (og_callF2 rfl rfl (fun w hh => toCarton_any x w (Rd.stays h4 _ hh) (by (try simp only [szM] at *); omega))) rfl (fun _ _ h => by first | exact h | exact h.drop 1 | exact h.drop 2 | exact h.drop 3 | exact h.drop 4 | exact h.drop 5 | exact h.drop 6 | exact h.drop 7 | exact h.drop 8 | exact h.drop 9 | exact h.drop 10 | exact h.drop 11 | exact h.drop 12 | exact h.drop 13) ?_; rintro vN3 hvN3; try dsimp only) | (refine GE.ol 2 (by as_aux_lemma => kernel_rfl) rfl rfl (og_callF3 rfl rfl (fun w hh => toCarton_any x w (Rd.stays h4 _ hh) (by (try simp only [szM] at *); omega))) rfl (fun _ _ h => by first | exact h | exact h.drop 1 | exact h.drop 2 | exact h.drop 3 | exact h.drop 4 | exact h.drop 5 | exact h.drop 6 | exact h.drop 7 | exact h.drop 8 | exact h.drop 9 | exact h.drop 10 | exact h.drop 11 | exact h.drop 12 | exact h.drop 13) ?_; rintro vN3 hvN3; try dsimp only) | (refine GE.ol 2 (by as_aux_lemma => kernel_rfl) rfl rfl (og_callF0 rfl rfl (fun w hh => toCarton_any x w (Rd.stays h4 _ hh) (by (try simp only [szM] at *); omega))) rfl (fun _ _ h => by first | exact h | exact h.drop 1 | exact h.drop 2 | exact h.drop 3 | exact h.drop 4 | exact h.drop 5 | exact h.drop 6 | exact h.drop 7 | exact h.drop 8 | exact h.drop 9 | exact h.drop 10 | exact h.drop 11 | exact h.drop 12 | exact h.drop 13) ?_; rintro vN3 hvN3; try dsimp only) | (refine GE.ol 2 (by as_aux_lemma => kernel_rfl) rfl rfl (og_callF rfl rfl (fun w hh => toCarton_any x w (Rd.stays h4 _ hh) (by (try simp only [szM] at *); omega))) rfl (fun _ _ h => by first | exact h | exact h.drop 1 | exact h.drop 2 | exact h.drop 3 | exact h.drop 4 | exact h.drop 5 | exact h.drop 6 | exact h.drop 7 | exact h.drop 8 | exact h.drop 9 | exact h.drop 10 | exact h.drop 11 | exact h.drop 12 | exact h.drop 13) ?_; rintro vN3 hvN3; try dsimp only))
                      refine GE.t 3 (by as_aux_lemma => kernel_rfl) rfl rfl rfl (og_callV rfl rfl (fun w hh => eqCarton_any (x.1, vN2) (x.1, vN3) w (by exact Rd.owned 6 rfl _ hh) (by exact Rd.owned 0 rfl _ hh))) rfl (fun _ _ => ?_)
                      refine GE.ol 4 (by as_aux_lemma => kernel_rfl) rfl rfl (og_runs (rv_not rfl)) rfl (fun _ _ h => by exact h.drop 1) (fun _ _ => ?_)
                      refine GE.done (by as_aux_lemma => kernel_rfl) ?_
                      refine G.thenN ?_
                      refine G.cond rfl (fun hc => ?_) (fun hc => ?_)
                      · try exact Bool.noConfusion hc
                        all_goals
                         try replace hc := of_decide_eq_true hc
                         try (exfalso; contradiction)
                         all_goals
                          refine G.seq ?_
                          refine G.region ?_
                          refine G.v (rv_assign rfl) rfl ?_
                          refine G.done ?_
                          refine G.thenN ?_
                          refine G.ret ?_
                          refine G.thenR ?_
                          (exfalso; simp at hc)
                      · try exact Bool.noConfusion hc
                        all_goals
                         try replace hc := of_decide_eq_false hc
                         try (exfalso; contradiction)
                         all_goals
                          refine G.skip ?_
                          refine G.thenN ?_
                          refine G.seq ?_
                          refine G.region ?_
                          refine G.v (rv_assign rfl) rfl ?_
                          refine G.done ?_
                          refine G.thenN ?_
                          refine G.ret ?_
                          exact G.retFV rfl rfl rfl
          ·
            refine GE.pickOp rfl rfl rfl (og_alloc) rfl (fun _ _ h => by exact h.drop 1) (fun bk6 _ => ?_)
            ((refine GE.ol 1 (by as_aux_lemma => kernel_rfl) rfl rfl (og_callF3 rfl rfl (fun w hh => toRequest_any (r := r) w (Rd.stays h _ hh) (Rd.stays h2 _ hh) (Rd.stays h3 _ hh) (by (try simp only [szM] at *); omega))) rfl (fun _ _ h => by exact h.drop 4) ?_; rintro ⟨pvN, tvN, ivN⟩ ⟨hovN, hov2N, hov3N⟩; try dsimp only))
            (first | (refine GE.ol 3 (by as_aux_lemma => kernel_rfl) rfl rfl (og_callF1 rfl rfl (fun w hh => toCarton_any x w (Rd.stays h4 _ hh) (by (try simp only [szM] at *); omega))) rfl (fun _ _ h => by first | exact h | exact h.drop 1 | exact h.drop 2 | exact h.drop 3 | exact h.drop 4 | exact h.drop 5 | exact h.drop 6 | exact h.drop 7 | exact h.drop 8 | exact h.drop 9 | exact h.drop 10 | exact h.drop 11 | exact h.drop 12 | exact h.drop 13) ?_; rintro vN1 hvN1; try dsimp only) | (refine GE.ol 3 (by as_aux_lemma => kernel_rfl) rfl rfl (og_callF2 rfl rfl (fun w hh => toCarton_any x w (Rd.stays h4 _ hh) (by (try simp only [szM] at *); omega))) rfl (fun _ _ h => by first | exact h | exact h.drop 1 | exact h.drop 2 | exact h.drop 3 | exact h.drop 4 | exact h.drop 5 | exact h.drop 6 | exact h.drop 7 | exact h.drop 8 | exact h.drop 9 | exact h.drop 10 | exact h.drop 11 | exact h.drop 12 | exact h.drop 13) ?_; rintro vN1 hvN1; try dsimp only) | (refine GE.ol 3 (by as_aux_lemma => kernel_rfl) rfl rfl (og_callF3 rfl rfl (fun w hh => toCarton_any x w (Rd.stays h4 _ hh) (by (try simp only [szM] at *); omega))) rfl (fun _ _ h => by first | exact h | exact h.drop 1 | exact h.drop 2 | exact h.drop 3 | exact h.drop 4 | exact h.drop 5 | exact h.drop 6 | exact h.drop 7 | exact h.drop 8 | exact h.drop 9 | exact h.drop 10 | exact h.drop 11 | exact h.drop 12 | exact h.drop 13) ?_; rintro vN1 hvN1; try dsimp only) | (refine GE.ol 3 (by as_aux_lemma => kernel_rfl) rfl rfl (og_callF0 rfl rfl (fun w hh => toCarton_any x w (Rd.stays h4 _ hh) (by (try simp only [szM] at *); omega))) rfl (fun _ _ h => by first | exact h | exact h.drop 1 | exact h.drop 2 | exact h.drop 3 | exact h.drop 4 | exact h.drop 5 | exact h.drop 6 | exact h.drop 7 | exact h.drop 8 | exact h.drop 9 | exact h.drop 10 | exact h.drop 11 | exact h.drop 12 | exact h.drop 13) ?_; rintro vN1 hvN1; try dsimp only) | (refine GE.ol 3 (by as_aux_lemma => kernel_rfl) rfl rfl (og_callF rfl rfl (fun w hh => toCarton_any x w (Rd.stays h4 _ hh) (by (try simp only [szM] at *); omega))) rfl (fun _ _ h => by first | exact h | exact h.drop 1 | exact h.drop 2 | exact h.drop 3 | exact h.drop 4 | exact h.drop 5 | exact h.drop 6 | exact h.drop 7 | exact h.drop 8 | exact h.drop 9 | exact h.drop 10 | exact h.drop 11 | exact h.drop 12 | exact h.drop 13) ?_; rintro vN1 hvN1; try dsimp only))
            (refine GE.ol 4 (by as_aux_lemma => kernel_rfl) rfl rfl (og_callF0 rfl rfl (fun w hh => (sboxOf_any (r := r) (x.1, _) w (by exact Rd.owned 3 rfl _ hh) (by exact Rd.owned 2 rfl _ hh) (by exact Rd.owned 1 rfl _ hh) (by exact Rd.owned 0 rfl _ hh) (by (try simp only [szM] at *); (try dsimp only); omega)).toFn)) rfl (fun _ _ h => by exact h.drop 5) ?_; rintro ⟨⟩ _; try dsimp only)
            (refine GE.t0 6 (by as_aux_lemma => kernel_rfl) rfl rfl rfl (og_st4 rfl rfl rfl rfl rfl rfl (.zero (.cons (.cons (.cons (.cons .nil)))))) (fun _ _ => ?_))
            refine GE.done (by as_aux_lemma => kernel_rfl) ?_
            refine G.thenN ?_
            refine G.seq ?_
            refine G.region ?_
            (refine G.v (rv_loadW 6 rfl rfl rfl) rfl ?_)
            ((refine G.op (og_callF3 rfl rfl (fun w hh => toRequest_any (r := r) w (Rd.stays h _ hh) (Rd.stays h2 _ hh) (Rd.stays h3 _ hh) (by (try simp only [szM] at *); omega))) rfl ?_; rintro ⟨pvN, tvN, ivN⟩ ⟨hovN, hov2N, hov3N⟩; try dsimp only))
            refine G.op (og_alloc) rfl (fun bk7 _ => ?_)
            (refine G.op0 (og_st0 rfl rfl rfl rfl rfl (by repeat (first | rfl | refine one_cons (by first | rfl | assumption) ?_)) (.zero (.cons (.cons (.cons (.cons (.cons (.cons (.cons (.cons (.cons (.cons .nil)))))))))))) (fun _ _ => ?_))
            refine G.done ?_
            refine G.thenN ?_
            refine G.seq ?_
            refine G.region ?_
            (refine G.v (rv_loadW 9 rfl rfl rfl) rfl ?_)
            (first | (refine G.op (og_callF1 rfl rfl (fun w hh => toCarton_any x w (Rd.stays h4 _ hh) (by (try simp only [szM] at *); omega))) rfl ?_; rintro vN2 hvN2; try dsimp only) | (refine G.op (og_callF2 rfl rfl (fun w hh => toCarton_any x w (Rd.stays h4 _ hh) (by (try simp only [szM] at *); omega))) rfl ?_; rintro vN2 hvN2; try dsimp only) | (refine G.op (og_callF3 rfl rfl (fun w hh => toCarton_any x w (Rd.stays h4 _ hh) (by (try simp only [szM] at *); omega))) rfl ?_; rintro vN2 hvN2; try dsimp only) | (refine G.op (og_callF0 rfl rfl (fun w hh => toCarton_any x w (Rd.stays h4 _ hh) (by (try simp only [szM] at *); omega))) rfl ?_; rintro vN2 hvN2; try dsimp only) | (refine G.op (og_callF rfl rfl (fun w hh => toCarton_any x w (Rd.stays h4 _ hh) (by (try simp only [szM] at *); omega))) rfl ?_; rintro vN2 hvN2; try dsimp only))
            refine G.op (og_alloc) rfl (fun bk8 _ => ?_)
            (refine G.op0 (og_st0 rfl rfl rfl rfl rfl (by repeat (first | rfl | refine one_cons (by first | rfl | assumption) ?_)) (.zero (.cons (.cons (.cons .nil))))) (fun _ _ => ?_))
            refine G.done ?_
            refine G.thenN ?_
            refine G.seq ?_
            refine G.region ?_
            (refine G.v (rv_loadW 2 rfl rfl rfl) rfl ?_)
            (refine G.v (rv_loadW 0 rfl rfl rfl) rfl ?_)
            refine G.op (og_callV rfl rfl (fun w hh => boxOf_any (r := r) (x.1, _) w (by exact Rd.owned 5 rfl _ hh) (by exact Rd.owned 4 rfl _ hh) (by exact Rd.owned 3 rfl _ hh) (by exact Rd.owned 1 rfl _ hh) (by (try simp only [szM] at *); (try dsimp only); omega))) rfl (fun _ _ => ?_)
            refine G.op (og_alloc) rfl (fun bk9 _ => ?_)
            (refine G.op0 (og_st0 rfl rfl rfl rfl rfl rfl (.zero (.cons (.cons (.cons (.cons .nil)))))) (fun _ _ => ?_))
            refine G.done ?_
            refine G.thenN ?_
            refine G.seq ?_
            refine G.seq ?_
            refine G.region ?_
            (refine G.v (rv_loadW 0 rfl rfl rfl) rfl ?_)
            (refine G.v (rv_loadW 11 rfl rfl rfl) rfl ?_)
            refine G.op (og_callV rfl rfl (fun w hh => eqBox_any (boxOfM r x.1) (boxOfM r x.1) w)) rfl (fun _ _ => ?_)
            refine G.v (rv_not rfl) rfl ?_
            refine G.done ?_
            refine G.thenN ?_
            refine G.cond rfl (fun hc => ?_) (fun hc => ?_)
            · try exact Bool.noConfusion hc
              all_goals
               try replace hc := of_decide_eq_true hc
               try (exfalso; contradiction)
               all_goals
                refine G.seq ?_
                refine G.region ?_
                refine G.v (rv_assign rfl) rfl ?_
                refine G.done ?_
                refine G.thenN ?_
                refine G.ret ?_
                refine G.thenR ?_
                (exfalso; simp at hc)
            · try exact Bool.noConfusion hc
              all_goals
               try replace hc := of_decide_eq_false hc
               try (exfalso; contradiction)
               all_goals
                refine G.skip ?_
                refine G.thenN ?_
                refine G.seq ?_
                refine G.seq ?_
                refine G.drawL [3] ?_
                (refine GE.q 0 rfl (by as_aux_lemma => kernel_rfl) rfl (qg_runs (rv_loadW 3 rfl rfl rfl)) rfl ?_)
                (refine GE.ol 1 (by as_aux_lemma => kernel_rfl) rfl rfl (og_runs (rv_loadW 13 rfl rfl rfl)) rfl (fun _ _ h => by exact h) (fun _ _ => ?_))
                ((refine GE.ol 2 (by as_aux_lemma => kernel_rfl) rfl rfl (og_callF3 rfl rfl (fun w hh => toRequest_any (r := r) w (Rd.stays h _ hh) (Rd.stays h2 _ hh) (Rd.stays h3 _ hh) (by (try simp only [szM] at *); omega))) rfl (fun _ _ h => by exact h.drop 3) ?_; rintro ⟨pvN, tvN, ivN⟩ ⟨hovN, hov2N, hov3N⟩; try dsimp only))
                refine GE.t 3 (by as_aux_lemma => kernel_rfl) rfl rfl rfl (og_callV rfl rfl (fun w hh => eqRequest_any (r := r) (s := r) w (by exact Rd.owned 9 rfl _ hh) (by exact Rd.owned 8 rfl _ hh) (by exact Rd.owned 7 rfl _ hh) (by exact Rd.owned 2 rfl _ hh) (by exact Rd.owned 1 rfl _ hh) (by exact Rd.owned 0 rfl _ hh))) rfl (fun _ _ => ?_)
                refine GE.ol 4 (by as_aux_lemma => kernel_rfl) rfl rfl (og_runs (rv_not rfl)) rfl (fun _ _ h => by exact h.drop 3) (fun _ _ => ?_)
                refine GE.done (by as_aux_lemma => kernel_rfl) ?_
                refine G.thenN ?_
                refine G.cond rfl (fun hc => ?_) (fun hc => ?_)
                · try exact Bool.noConfusion hc
                  all_goals
                   try replace hc := of_decide_eq_true hc
                   try (exfalso; contradiction)
                   all_goals
                    refine G.seq ?_
                    refine G.region ?_
                    refine G.v (rv_assign rfl) rfl ?_
                    refine G.done ?_
                    refine G.thenN ?_
                    refine G.ret ?_
                    refine G.thenR ?_
                    (exfalso; simp at hc)
                · try exact Bool.noConfusion hc
                  all_goals
                   try replace hc := of_decide_eq_false hc
                   try (exfalso; contradiction)
                   all_goals
                    refine G.skip ?_
                    refine G.thenN ?_
                    refine G.seq ?_
                    refine G.seq ?_
                    refine G.drawL [3] ?_
                    (refine GE.q 0 rfl (by as_aux_lemma => kernel_rfl) rfl (qg_runs (rv_loadW 4 rfl rfl rfl)) rfl ?_)
                    (refine GE.ol 1 (by as_aux_lemma => kernel_rfl) rfl rfl (og_runs (rv_loadW 15 rfl rfl rfl)) rfl (fun _ _ h => by exact h) (fun _ _ => ?_))
                    (first | (refine GE.ol 2 (by as_aux_lemma => kernel_rfl) rfl rfl (og_callF1 rfl rfl (fun w hh => toCarton_any x w (Rd.stays h4 _ hh) (by (try simp only [szM] at *); omega))) rfl (fun _ _ h => by first | exact h | exact h.drop 1 | exact h.drop 2 | exact h.drop 3 | exact h.drop 4 | exact h.drop 5 | exact h.drop 6 | exact h.drop 7 | exact h.drop 8 | exact h.drop 9 | exact h.drop 10 | exact h.drop 11 | exact h.drop 12 | exact h.drop 13) ?_; rintro vN3 hvN3; try dsimp only) | (refine GE.ol 2 (by as_aux_lemma => kernel_rfl) rfl rfl (og_callF2 rfl rfl (fun w hh => toCarton_any x w (Rd.stays h4 _ hh) (by (try simp only [szM] at *); omega))) rfl (fun _ _ h => by first | exact h | exact h.drop 1 | exact h.drop 2 | exact h.drop 3 | exact h.drop 4 | exact h.drop 5 | exact h.drop 6 | exact h.drop 7 | exact h.drop 8 | exact h.drop 9 | exact h.drop 10 | exact h.drop 11 | exact h.drop 12 | exact h.drop 13) ?_; rintro vN3 hvN3; try dsimp only) | (refine GE.ol 2 (by as_aux_lemma => kernel_rfl) rfl rfl (og_callF3 rfl rfl (fun w hh => toCarton_any x w (Rd.stays h4 _ hh) (by (try simp only [szM] at *); omega))) rfl (fun _ _ h => by first | exact h | exact h.drop 1 | exact h.drop 2 | exact h.drop 3 | exact h.drop 4 | exact h.drop 5 | exact h.drop 6 | exact h.drop 7 | exact h.drop 8 | exact h.drop 9 | exact h.drop 10 | exact h.drop 11 | exact h.drop 12 | exact h.drop 13) ?_; rintro vN3 hvN3; try dsimp only) | (refine GE.ol 2 (by as_aux_lemma => kernel_rfl) rfl rfl (og_callF0 rfl rfl (fun w hh => toCarton_any x w (Rd.stays h4 _ hh) (by (try simp only [szM] at *); omega))) rfl (fun _ _ h => by first | exact h | exact h.drop 1 | exact h.drop 2 | exact h.drop 3 | exact h.drop 4 | exact h.drop 5 | exact h.drop 6 | exact h.drop 7 | exact h.drop 8 | exact h.drop 9 | exact h.drop 10 | exact h.drop 11 | exact h.drop 12 | exact h.drop 13) ?_; rintro vN3 hvN3; try dsimp only) | (refine GE.ol 2 (by as_aux_lemma => kernel_rfl) rfl rfl (og_callF rfl rfl (fun w hh => toCarton_any x w (Rd.stays h4 _ hh) (by (try simp only [szM] at *); omega))) rfl (fun _ _ h => by first | exact h | exact h.drop 1 | exact h.drop 2 | exact h.drop 3 | exact h.drop 4 | exact h.drop 5 | exact h.drop 6 | exact h.drop 7 | exact h.drop 8 | exact h.drop 9 | exact h.drop 10 | exact h.drop 11 | exact h.drop 12 | exact h.drop 13) ?_; rintro vN3 hvN3; try dsimp only))
                    refine GE.t 3 (by as_aux_lemma => kernel_rfl) rfl rfl rfl (og_callV rfl rfl (fun w hh => eqCarton_any (x.1, vN2) (x.1, vN3) w (by exact Rd.owned 6 rfl _ hh) (by exact Rd.owned 0 rfl _ hh))) rfl (fun _ _ => ?_)
                    refine GE.ol 4 (by as_aux_lemma => kernel_rfl) rfl rfl (og_runs (rv_not rfl)) rfl (fun _ _ h => by exact h.drop 1) (fun _ _ => ?_)
                    refine GE.done (by as_aux_lemma => kernel_rfl) ?_
                    refine G.thenN ?_
                    refine G.cond rfl (fun hc => ?_) (fun hc => ?_)
                    · try exact Bool.noConfusion hc
                      all_goals
                       try replace hc := of_decide_eq_true hc
                       try (exfalso; contradiction)
                       all_goals
                        refine G.seq ?_
                        refine G.region ?_
                        refine G.v (rv_assign rfl) rfl ?_
                        refine G.done ?_
                        refine G.thenN ?_
                        refine G.ret ?_
                        refine G.thenR ?_
                        (exfalso; simp at hc)
                    · try exact Bool.noConfusion hc
                      all_goals
                       try replace hc := of_decide_eq_false hc
                       try (exfalso; contradiction)
                       all_goals
                        refine G.skip ?_
                        refine G.thenN ?_
                        refine G.seq ?_
                        refine G.region ?_
                        refine G.v (rv_assign rfl) rfl ?_
                        refine G.done ?_
                        refine G.thenN ?_
                        refine G.ret ?_
                        exact G.retFV rfl rfl rfl
end Go.Proofs.YtpmphkcibiimcaaGreat
