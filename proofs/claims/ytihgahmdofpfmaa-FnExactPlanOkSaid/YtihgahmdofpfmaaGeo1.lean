/-
  Numbers, boxes and spots: what the smallest functions return.
-/
import Derived.Test.YtihgahmdofpfmaaTypes
import Derived.Test.YtihgahmdofpfmaaModel
namespace Go.Proofs.Ytihgahmdofpfmaa
open Go.RowKit
attribute [local irreducible] Go.wpList Go.Code.wp Go.Exit.then Go.Exit.inBlock Go.bodyPost Go.Calls pE pB G RunsV FnV Fn FnM
set_option maxRecDepth 100000

theorem in_any (n lo hi : Int) (w : World) : FnV Try.prog 67 [.int .i64 n, .int .i64 lo, .int .i64 hi] w (.bool (inB n lo hi)) := by
  refine FnV.of (n := 15) Try.func67 rfl rfl ?_
  refine G.seq ?_
  refine G.region ?_
  refine G.v (rv_assign rfl) rfl ?_
  refine G.done ?_
  refine G.thenN ?_
  refine G.seq ?_
  refine G.region ?_
  refine G.v (rv_move rfl) rfl ?_
  refine G.v (rv_move rfl) rfl ?_
  refine G.v (rv_geq rfl rfl) rfl ?_
  refine G.v (rv_move rfl) rfl ?_
  all_goals (((with_reducible refine G.gP rfl rfl (fun hg => ?_) (fun hg => ?_)) <;> (try exact Bool.noConfusion hg) <;> (first | (refine G.gY rfl rfl ?_; refine G.v (rv_move rfl) rfl ?_) | refine G.gN rfl rfl rfl ?_ | refine G.gU rfl rfl rfl ?_)))
  all_goals ((first | (refine G.gY rfl rfl ?_; refine G.v (rv_move rfl) rfl ?_) | refine G.gN rfl rfl rfl ?_ | refine G.gU rfl rfl rfl ?_))
  all_goals ((first | (refine G.gY rfl rfl ?_; refine G.v (rv_leq rfl rfl) rfl ?_) | refine G.gN rfl rfl rfl ?_ | refine G.gU rfl rfl rfl ?_))
  all_goals ((first | refine G.v (rv_pickT rfl rfl) rfl ?_ | refine G.v (rv_pickF rfl rfl) rfl ?_))
  all_goals (refine G.v (rv_assign rfl) rfl ?_)
  all_goals
   refine G.done ?_
   refine G.thenN ?_
   refine G.ret ?_
   refine G.retFV rfl rfl ?_; simp [inB, *] <;> omega
theorem l1In_any (n lo hi : Int) (w : World) : FnV Try.prog 63 [.int .i64 n, .int .i64 lo, .int .i64 hi] w (.bool (inB n lo hi)) := by
  refine FnV.of (n := 15) Try.func63 rfl rfl ?_
  refine G.seq ?_
  refine G.region ?_
  refine G.v (rv_assign rfl) rfl ?_
  refine G.done ?_
  refine G.thenN ?_
  refine G.seq ?_
  refine G.region ?_
  refine G.v (rv_move rfl) rfl ?_
  refine G.v (rv_move rfl) rfl ?_
  refine G.v (rv_geq rfl rfl) rfl ?_
  refine G.v (rv_move rfl) rfl ?_
  all_goals (((with_reducible refine G.gP rfl rfl (fun hg => ?_) (fun hg => ?_)) <;> (try exact Bool.noConfusion hg) <;> (first | (refine G.gY rfl rfl ?_; refine G.v (rv_move rfl) rfl ?_) | refine G.gN rfl rfl rfl ?_ | refine G.gU rfl rfl rfl ?_)))
  all_goals ((first | (refine G.gY rfl rfl ?_; refine G.v (rv_move rfl) rfl ?_) | refine G.gN rfl rfl rfl ?_ | refine G.gU rfl rfl rfl ?_))
  all_goals ((first | (refine G.gY rfl rfl ?_; refine G.v (rv_leq rfl rfl) rfl ?_) | refine G.gN rfl rfl rfl ?_ | refine G.gU rfl rfl rfl ?_))
  all_goals ((first | refine G.v (rv_pickT rfl rfl) rfl ?_ | refine G.v (rv_pickF rfl rfl) rfl ?_))
  all_goals (refine G.v (rv_assign rfl) rfl ?_)
  all_goals
   refine G.done ?_
   refine G.thenN ?_
   refine G.ret ?_
   refine G.retFV rfl rfl ?_; simp [inB, *] <;> omega
theorem l1Max_any (a b : Int) (w : World) : FnV Try.prog 66 [.int .i64 a, .int .i64 b] w (.int .i64 (max a b)) := by
  refine FnV.of (n := 10) Try.func66 rfl rfl ?_
  refine G.seq ?_
  refine G.region ?_
  refine G.v (rv_assign rfl) rfl ?_
  refine G.done ?_
  refine G.thenN ?_
  refine G.seq ?_
  refine G.seq ?_
  refine G.region ?_
  refine G.v (rv_move rfl) rfl ?_
  refine G.v (rv_move rfl) rfl ?_
  refine G.v (rv_gtr rfl rfl) rfl ?_
  refine G.done ?_
  refine G.thenN ?_
  refine G.cond rfl (fun hc => ?_) (fun hc => ?_)
  · try exact Bool.noConfusion hc
    all_goals
     try replace hc := of_decide_eq_true hc
     try (exfalso; first | contradiction | omega)
     all_goals
      refine G.seq ?_
      refine G.region ?_
      refine G.v (rv_move rfl) rfl ?_
      refine G.v (rv_assign rfl) rfl ?_
      refine G.done ?_
      refine G.thenN ?_
      refine G.ret ?_
      refine G.thenR ?_
      refine G.retFV rfl rfl (congrArg (Value.int .i64) ?_); omega
  · try exact Bool.noConfusion hc
    all_goals
     try replace hc := of_decide_eq_false hc
     try (exfalso; first | contradiction | omega)
     all_goals
      refine G.skip ?_
      refine G.thenN ?_
      refine G.seq ?_
      refine G.region ?_
      refine G.v (rv_move rfl) rfl ?_
      refine G.v (rv_assign rfl) rfl ?_
      refine G.done ?_
      refine G.thenN ?_
      refine G.ret ?_
      refine G.retFV rfl rfl (congrArg (Value.int .i64) ?_); omega
theorem most_any (a b : Int) (w : World) : FnV Try.prog 34 [.int .i64 a, .int .i64 b] w (.int .i64 (max a b)) := by
  refine FnV.of (n := 10) Try.func34 rfl rfl ?_
  refine G.seq ?_
  refine G.region ?_
  refine G.v (rv_assign rfl) rfl ?_
  refine G.done ?_
  refine G.thenN ?_
  refine G.seq ?_
  refine G.seq ?_
  refine G.region ?_
  refine G.v (rv_move rfl) rfl ?_
  refine G.v (rv_move rfl) rfl ?_
  refine G.v (rv_gtr rfl rfl) rfl ?_
  refine G.done ?_
  refine G.thenN ?_
  refine G.cond rfl (fun hc => ?_) (fun hc => ?_)
  · try exact Bool.noConfusion hc
    all_goals
     try replace hc := of_decide_eq_true hc
     try (exfalso; first | contradiction | omega)
     all_goals
      refine G.seq ?_
      refine G.region ?_
      refine G.v (rv_move rfl) rfl ?_
      refine G.v (rv_assign rfl) rfl ?_
      refine G.done ?_
      refine G.thenN ?_
      refine G.ret ?_
      refine G.thenR ?_
      refine G.retFV rfl rfl (congrArg (Value.int .i64) ?_); omega
  · try exact Bool.noConfusion hc
    all_goals
     try replace hc := of_decide_eq_false hc
     try (exfalso; first | contradiction | omega)
     all_goals
      refine G.skip ?_
      refine G.thenN ?_
      refine G.seq ?_
      refine G.region ?_
      refine G.v (rv_move rfl) rfl ?_
      refine G.v (rv_assign rfl) rfl ?_
      refine G.done ?_
      refine G.thenN ?_
      refine G.ret ?_
      refine G.retFV rfl rfl (congrArg (Value.int .i64) ?_); omega
theorem isSide_any (n : Int) (w : World) : FnV Try.prog 59 [.int .i64 n] w (.bool (inB n 1 2000)) := by
  refine FnV.of (n := 5) Try.func59 rfl rfl ?_
  refine G.seq ?_
  refine G.region ?_
  refine G.v (rv_assign rfl) rfl ?_
  refine G.done ?_
  refine G.thenN ?_
  refine G.seq ?_
  refine G.region ?_
  refine G.v (rv_move rfl) rfl ?_
  refine G.op (og_callV rfl rfl (fun w _ => in_any _ _ _ w)) rfl (fun _ _ => ?_)
  refine G.v (rv_assign rfl) rfl ?_
  refine G.done ?_
  refine G.thenN ?_
  refine G.ret ?_
  exact G.retFV rfl rfl rfl
theorem isPlace_any (n : Int) (w : World) : FnV Try.prog 58 [.int .i64 n] w (.bool (inB n 0 2000)) := by
  refine FnV.of (n := 5) Try.func58 rfl rfl ?_
  refine G.seq ?_
  refine G.region ?_
  refine G.v (rv_assign rfl) rfl ?_
  refine G.done ?_
  refine G.thenN ?_
  refine G.seq ?_
  refine G.region ?_
  refine G.v (rv_move rfl) rfl ?_
  refine G.op (og_callV rfl rfl (fun w _ => in_any _ _ _ w)) rfl (fun _ _ => ?_)
  refine G.v (rv_assign rfl) rfl ?_
  refine G.done ?_
  refine G.thenN ?_
  refine G.ret ?_
  exact G.retFV rfl rfl rfl
theorem l2Side_any (n : Int) (w : World) : FnV Try.prog 94 [.int .i64 n] w (.bool (inB n 1 2000)) := by
  refine FnV.of (n := 5) Try.func94 rfl rfl ?_
  refine G.seq ?_
  refine G.region ?_
  refine G.v (rv_assign rfl) rfl ?_
  refine G.done ?_
  refine G.thenN ?_
  refine G.seq ?_
  refine G.region ?_
  refine G.v (rv_move rfl) rfl ?_
  refine G.op (og_callV rfl rfl (fun w _ => l1In_any _ _ _ w)) rfl (fun _ _ => ?_)
  refine G.v (rv_assign rfl) rfl ?_
  refine G.done ?_
  refine G.thenN ?_
  refine G.ret ?_
  exact G.retFV rfl rfl rfl
theorem l2Id_any (n : Int) (w : World) : FnV Try.prog 102 [.int .i64 n] w (.bool (inB n 0 999)) := by
  refine FnV.of (n := 5) Try.func102 rfl rfl ?_
  refine G.seq ?_
  refine G.region ?_
  refine G.v (rv_assign rfl) rfl ?_
  refine G.done ?_
  refine G.thenN ?_
  refine G.seq ?_
  refine G.region ?_
  refine G.v (rv_move rfl) rfl ?_
  refine G.op (og_callV rfl rfl (fun w _ => l1In_any _ _ _ w)) rfl (fun _ _ => ?_)
  refine G.v (rv_assign rfl) rfl ?_
  refine G.done ?_
  refine G.thenN ?_
  refine G.ret ?_
  exact G.retFV rfl rfl rfl
theorem volume_any (a b c : Int) (w : World) : FnV Try.prog 64 [.int .i64 a, .int .i64 b, .int .i64 c] w (.int .i64 (volM a b c)) := by
  refine FnV.of (n := 25) Try.func64 rfl rfl ?_
  refine G.seq ?_
  refine G.region ?_
  refine G.v (rv_assign rfl) rfl ?_
  refine G.done ?_
  refine G.thenN ?_
  refine G.seq ?_
  refine G.seq ?_
  refine G.region ?_
  refine G.v (rv_move rfl) rfl ?_
  refine G.op (og_callV rfl rfl (fun w _ => in_any _ _ _ w)) rfl (fun _ _ => ?_)
  refine G.v (rv_not rfl) rfl ?_
  refine G.v (rv_move rfl) rfl ?_
  all_goals (((with_reducible refine G.gP rfl rfl (fun hg => ?_) (fun hg => ?_)) <;> (try exact Bool.noConfusion hg) <;> (first | (refine G.gY rfl rfl ?_; refine G.v (rv_move rfl) rfl ?_) | refine G.gN rfl rfl rfl ?_ | refine G.gU rfl rfl rfl ?_)))
  all_goals ((first | (refine G.gY rfl rfl ?_; refine G.op (og_callV rfl rfl (fun w _ => in_any _ _ _ w)) rfl (fun _ _ => ?_)) | refine G.gN rfl rfl rfl ?_ | refine G.gU rfl rfl rfl ?_))
  all_goals ((first | (refine G.gY rfl rfl ?_; refine G.v (rv_not rfl) rfl ?_) | refine G.gN rfl rfl rfl ?_ | refine G.gU rfl rfl rfl ?_))
  all_goals ((first | refine G.v (rv_pickT rfl rfl) rfl ?_ | refine G.v (rv_pickF rfl rfl) rfl ?_))
  all_goals (refine G.v (rv_move rfl) rfl ?_)
  all_goals (((with_reducible refine G.gP rfl rfl (fun hg => ?_) (fun hg => ?_)) <;> (try exact Bool.noConfusion hg) <;> (first | (refine G.gY rfl rfl ?_; refine G.v (rv_move rfl) rfl ?_) | refine G.gN rfl rfl rfl ?_ | refine G.gU rfl rfl rfl ?_)))
  all_goals ((first | (refine G.gY rfl rfl ?_; refine G.op (og_callV rfl rfl (fun w _ => in_any _ _ _ w)) rfl (fun _ _ => ?_)) | refine G.gN rfl rfl rfl ?_ | refine G.gU rfl rfl rfl ?_))
  all_goals ((first | (refine G.gY rfl rfl ?_; refine G.v (rv_not rfl) rfl ?_) | refine G.gN rfl rfl rfl ?_ | refine G.gU rfl rfl rfl ?_))
  all_goals ((first | refine G.v (rv_pickT rfl rfl) rfl ?_ | refine G.v (rv_pickF rfl rfl) rfl ?_))
  all_goals
   refine G.done ?_
   refine G.thenN ?_
   refine G.cond rfl (fun hc => ?_) (fun hc => ?_)
   · try exact Bool.noConfusion hc
     all_goals
      try replace hc := of_decide_eq_true hc
      try (exfalso; first | contradiction | omega)
      all_goals
       refine G.seq ?_
       refine G.region ?_
       refine G.v (rv_assign rfl) rfl ?_
       refine G.done ?_
       refine G.thenN ?_
       refine G.ret ?_
       refine G.thenR ?_
       refine G.retFV rfl rfl ?_; simp_all [volM] <;> (intros; omega)
   · try exact Bool.noConfusion hc
     all_goals
      try replace hc := of_decide_eq_false hc
      try (exfalso; first | contradiction | omega)
      all_goals
       refine G.skip ?_
       refine G.thenN ?_
       refine G.seq ?_
       refine G.region ?_
       refine G.v (rv_move rfl) rfl ?_
       refine G.v (rv_move rfl) rfl ?_
       refine G.v (rv_mul rfl rfl) rfl ?_
       refine G.v (rv_move rfl) rfl ?_
       refine G.v (rv_mul rfl rfl) rfl ?_
       refine G.v (rv_assign rfl) rfl ?_
       refine G.done ?_
       refine G.thenN ?_
       refine G.ret ?_
       refine G.retFV rfl rfl ?_; simp_all [volM] <;> (intros; omega)
theorem palletOk_any (p : PalletM) (w : World) : FnV Try.prog 71 [p.val] w (.bool (palletOkM p)) := by
  refine FnV.of (n := 21) Try.func71 rfl rfl ?_
  refine G.seq ?_
  refine G.region ?_
  refine G.op (og_box rfl rfl) rfl (fun b _ => ?_)
  refine G.v (rv_assign rfl) rfl ?_
  refine G.done ?_
  refine G.thenN ?_
  refine G.seq ?_
  refine G.region ?_
  (first | refine G.v (rv_field rfl) rfl ?_ | refine G.v (rv_fieldE rfl) rfl ?_)
  (first | refine G.v (rv_load1 0 rfl rfl rfl) rfl ?_ | refine G.v (rv_loadE rfl (by first | exact Rd.stays (by assumption) | exact Rd.owned 0 rfl) (by assumption) rfl) rfl ?_)
  refine G.op (og_callV rfl rfl (fun w _ => isSide_any _ w)) rfl (fun _ _ => ?_)
  refine G.v (rv_move rfl) rfl ?_
  all_goals (((with_reducible refine G.gP rfl rfl (fun hg => ?_) (fun hg => ?_)) <;> (try exact Bool.noConfusion hg) <;> (first | (refine G.gY rfl rfl ?_; (first | refine G.v (rv_field rfl) rfl ?_ | refine G.v (rv_fieldE rfl) rfl ?_)) | refine G.gN rfl rfl rfl ?_ | refine G.gU rfl rfl rfl ?_)))
  all_goals ((first | (refine G.gY rfl rfl ?_; (first | refine G.v (rv_load1 0 rfl rfl rfl) rfl ?_ | refine G.v (rv_loadE rfl (by first | exact Rd.stays (by assumption) | exact Rd.owned 0 rfl) (by assumption) rfl) rfl ?_)) | refine G.gN rfl rfl rfl ?_ | refine G.gU rfl rfl rfl ?_))
  all_goals ((first | (refine G.gY rfl rfl ?_; refine G.op (og_callV rfl rfl (fun w _ => isSide_any _ w)) rfl (fun _ _ => ?_)) | refine G.gN rfl rfl rfl ?_ | refine G.gU rfl rfl rfl ?_))
  all_goals ((first | refine G.v (rv_pickT rfl rfl) rfl ?_ | refine G.v (rv_pickF rfl rfl) rfl ?_))
  all_goals (refine G.v (rv_move rfl) rfl ?_)
  all_goals (((with_reducible refine G.gP rfl rfl (fun hg => ?_) (fun hg => ?_)) <;> (try exact Bool.noConfusion hg) <;> (first | (refine G.gY rfl rfl ?_; (first | refine G.v (rv_field rfl) rfl ?_ | refine G.v (rv_fieldE rfl) rfl ?_)) | refine G.gN rfl rfl rfl ?_ | refine G.gU rfl rfl rfl ?_)))
  all_goals ((first | (refine G.gY rfl rfl ?_; (first | refine G.v (rv_load1 0 rfl rfl rfl) rfl ?_ | refine G.v (rv_loadE rfl (by first | exact Rd.stays (by assumption) | exact Rd.owned 0 rfl) (by assumption) rfl) rfl ?_)) | refine G.gN rfl rfl rfl ?_ | refine G.gU rfl rfl rfl ?_))
  all_goals ((first | (refine G.gY rfl rfl ?_; refine G.op (og_callV rfl rfl (fun w _ => isSide_any _ w)) rfl (fun _ _ => ?_)) | refine G.gN rfl rfl rfl ?_ | refine G.gU rfl rfl rfl ?_))
  all_goals ((first | refine G.v (rv_pickT rfl rfl) rfl ?_ | refine G.v (rv_pickF rfl rfl) rfl ?_))
  all_goals (refine G.v (rv_move rfl) rfl ?_)
  all_goals (((with_reducible refine G.gP rfl rfl (fun hg => ?_) (fun hg => ?_)) <;> (try exact Bool.noConfusion hg) <;> (first | (refine G.gY rfl rfl ?_; (first | refine G.v (rv_field rfl) rfl ?_ | refine G.v (rv_fieldE rfl) rfl ?_)) | refine G.gN rfl rfl rfl ?_ | refine G.gU rfl rfl rfl ?_)))
  all_goals ((first | (refine G.gY rfl rfl ?_; (first | refine G.v (rv_load1 0 rfl rfl rfl) rfl ?_ | refine G.v (rv_loadE rfl (by first | exact Rd.stays (by assumption) | exact Rd.owned 0 rfl) (by assumption) rfl) rfl ?_)) | refine G.gN rfl rfl rfl ?_ | refine G.gU rfl rfl rfl ?_))
  all_goals ((first | (refine G.gY rfl rfl ?_; refine G.op (og_callV rfl rfl (fun w _ => in_any _ _ _ w)) rfl (fun _ _ => ?_)) | refine G.gN rfl rfl rfl ?_ | refine G.gU rfl rfl rfl ?_))
  all_goals ((first | refine G.v (rv_pickT rfl rfl) rfl ?_ | refine G.v (rv_pickF rfl rfl) rfl ?_))
  all_goals (refine G.v (rv_assign rfl) rfl ?_)
  all_goals
   refine G.done ?_
   refine G.thenN ?_
   refine G.ret ?_
   refine G.retFV rfl rfl ?_; simp_all [palletOkM] <;> (intros; omega)
theorem spalletOk_any (p : PalletM) (w : World) : FnV Try.prog 70 [p.val] w (.bool (palletOkM p)) := by
  refine FnV.of (n := 21) Try.func70 rfl rfl ?_
  refine G.seq ?_
  refine G.region ?_
  refine G.op (og_box rfl rfl) rfl (fun b _ => ?_)
  refine G.v (rv_assign rfl) rfl ?_
  refine G.done ?_
  refine G.thenN ?_
  refine G.seq ?_
  refine G.region ?_
  (first | refine G.v (rv_field rfl) rfl ?_ | refine G.v (rv_fieldE rfl) rfl ?_)
  (first | refine G.v (rv_load1 0 rfl rfl rfl) rfl ?_ | refine G.v (rv_loadE rfl (by first | exact Rd.stays (by assumption) | exact Rd.owned 0 rfl) (by assumption) rfl) rfl ?_)
  refine G.op (og_callV rfl rfl (fun w _ => l2Side_any _ w)) rfl (fun _ _ => ?_)
  refine G.v (rv_move rfl) rfl ?_
  all_goals (((with_reducible refine G.gP rfl rfl (fun hg => ?_) (fun hg => ?_)) <;> (try exact Bool.noConfusion hg) <;> (first | (refine G.gY rfl rfl ?_; (first | refine G.v (rv_field rfl) rfl ?_ | refine G.v (rv_fieldE rfl) rfl ?_)) | refine G.gN rfl rfl rfl ?_ | refine G.gU rfl rfl rfl ?_)))
  all_goals ((first | (refine G.gY rfl rfl ?_; (first | refine G.v (rv_load1 0 rfl rfl rfl) rfl ?_ | refine G.v (rv_loadE rfl (by first | exact Rd.stays (by assumption) | exact Rd.owned 0 rfl) (by assumption) rfl) rfl ?_)) | refine G.gN rfl rfl rfl ?_ | refine G.gU rfl rfl rfl ?_))
  all_goals ((first | (refine G.gY rfl rfl ?_; refine G.op (og_callV rfl rfl (fun w _ => l2Side_any _ w)) rfl (fun _ _ => ?_)) | refine G.gN rfl rfl rfl ?_ | refine G.gU rfl rfl rfl ?_))
  all_goals ((first | refine G.v (rv_pickT rfl rfl) rfl ?_ | refine G.v (rv_pickF rfl rfl) rfl ?_))
  all_goals (refine G.v (rv_move rfl) rfl ?_)
  all_goals (((with_reducible refine G.gP rfl rfl (fun hg => ?_) (fun hg => ?_)) <;> (try exact Bool.noConfusion hg) <;> (first | (refine G.gY rfl rfl ?_; (first | refine G.v (rv_field rfl) rfl ?_ | refine G.v (rv_fieldE rfl) rfl ?_)) | refine G.gN rfl rfl rfl ?_ | refine G.gU rfl rfl rfl ?_)))
  all_goals ((first | (refine G.gY rfl rfl ?_; (first | refine G.v (rv_load1 0 rfl rfl rfl) rfl ?_ | refine G.v (rv_loadE rfl (by first | exact Rd.stays (by assumption) | exact Rd.owned 0 rfl) (by assumption) rfl) rfl ?_)) | refine G.gN rfl rfl rfl ?_ | refine G.gU rfl rfl rfl ?_))
  all_goals ((first | (refine G.gY rfl rfl ?_; refine G.op (og_callV rfl rfl (fun w _ => l2Side_any _ w)) rfl (fun _ _ => ?_)) | refine G.gN rfl rfl rfl ?_ | refine G.gU rfl rfl rfl ?_))
  all_goals ((first | refine G.v (rv_pickT rfl rfl) rfl ?_ | refine G.v (rv_pickF rfl rfl) rfl ?_))
  all_goals (refine G.v (rv_move rfl) rfl ?_)
  all_goals (((with_reducible refine G.gP rfl rfl (fun hg => ?_) (fun hg => ?_)) <;> (try exact Bool.noConfusion hg) <;> (first | (refine G.gY rfl rfl ?_; (first | refine G.v (rv_field rfl) rfl ?_ | refine G.v (rv_fieldE rfl) rfl ?_)) | refine G.gN rfl rfl rfl ?_ | refine G.gU rfl rfl rfl ?_)))
  all_goals ((first | (refine G.gY rfl rfl ?_; (first | refine G.v (rv_load1 0 rfl rfl rfl) rfl ?_ | refine G.v (rv_loadE rfl (by first | exact Rd.stays (by assumption) | exact Rd.owned 0 rfl) (by assumption) rfl) rfl ?_)) | refine G.gN rfl rfl rfl ?_ | refine G.gU rfl rfl rfl ?_))
  all_goals ((first | (refine G.gY rfl rfl ?_; refine G.op (og_callV rfl rfl (fun w _ => l1In_any _ _ _ w)) rfl (fun _ _ => ?_)) | refine G.gN rfl rfl rfl ?_ | refine G.gU rfl rfl rfl ?_))
  all_goals ((first | refine G.v (rv_pickT rfl rfl) rfl ?_ | refine G.v (rv_pickF rfl rfl) rfl ?_))
  all_goals (refine G.v (rv_assign rfl) rfl ?_)
  all_goals
   refine G.done ?_
   refine G.thenN ?_
   refine G.ret ?_
   refine G.retFV rfl rfl ?_; simp_all [palletOkM] <;> (intros; omega)
theorem placed_any (b : BoxM) (s : SpotM) (w : World) : FnV Try.prog 56 [b.val, s.val] w (.bool (placedM b s)) := by
  refine FnV.of (n := 33) Try.func56 rfl rfl ?_
  refine G.seq ?_
  refine G.region ?_
  refine G.op (og_box rfl rfl) rfl (fun b _ => ?_)
  refine G.op (og_box rfl rfl) rfl (fun b _ => ?_)
  refine G.v (rv_assign rfl) rfl ?_
  refine G.done ?_
  refine G.thenN ?_
  refine G.seq ?_
  refine G.region ?_
  (first | refine G.v (rv_field rfl) rfl ?_ | refine G.v (rv_fieldE rfl) rfl ?_)
  (first | refine G.v (rv_load1 0 rfl rfl rfl) rfl ?_ | refine G.v (rv_load1 1 rfl rfl rfl) rfl ?_ | refine G.v (rv_loadE rfl (by first | exact Rd.stays (by assumption) | exact Rd.owned 0 rfl | exact Rd.owned 1 rfl) (by assumption) rfl) rfl ?_)
  refine G.op (og_callV rfl rfl (fun w _ => isPlace_any _ w)) rfl (fun _ _ => ?_)
  refine G.v (rv_move rfl) rfl ?_
  all_goals (((with_reducible refine G.gP rfl rfl (fun hg => ?_) (fun hg => ?_)) <;> (try exact Bool.noConfusion hg) <;> (first | (refine G.gY rfl rfl ?_; (first | refine G.v (rv_field rfl) rfl ?_ | refine G.v (rv_fieldE rfl) rfl ?_)) | refine G.gN rfl rfl rfl ?_ | refine G.gU rfl rfl rfl ?_)))
  all_goals ((first | (refine G.gY rfl rfl ?_; (first | refine G.v (rv_load1 0 rfl rfl rfl) rfl ?_ | refine G.v (rv_load1 1 rfl rfl rfl) rfl ?_ | refine G.v (rv_loadE rfl (by first | exact Rd.stays (by assumption) | exact Rd.owned 0 rfl | exact Rd.owned 1 rfl) (by assumption) rfl) rfl ?_)) | refine G.gN rfl rfl rfl ?_ | refine G.gU rfl rfl rfl ?_))
  all_goals ((first | (refine G.gY rfl rfl ?_; refine G.op (og_callV rfl rfl (fun w _ => isPlace_any _ w)) rfl (fun _ _ => ?_)) | refine G.gN rfl rfl rfl ?_ | refine G.gU rfl rfl rfl ?_))
  all_goals ((first | refine G.v (rv_pickT rfl rfl) rfl ?_ | refine G.v (rv_pickF rfl rfl) rfl ?_))
  all_goals (refine G.v (rv_move rfl) rfl ?_)
  all_goals (((with_reducible refine G.gP rfl rfl (fun hg => ?_) (fun hg => ?_)) <;> (try exact Bool.noConfusion hg) <;> (first | (refine G.gY rfl rfl ?_; (first | refine G.v (rv_field rfl) rfl ?_ | refine G.v (rv_fieldE rfl) rfl ?_)) | refine G.gN rfl rfl rfl ?_ | refine G.gU rfl rfl rfl ?_)))
  all_goals ((first | (refine G.gY rfl rfl ?_; (first | refine G.v (rv_load1 0 rfl rfl rfl) rfl ?_ | refine G.v (rv_load1 1 rfl rfl rfl) rfl ?_ | refine G.v (rv_loadE rfl (by first | exact Rd.stays (by assumption) | exact Rd.owned 0 rfl | exact Rd.owned 1 rfl) (by assumption) rfl) rfl ?_)) | refine G.gN rfl rfl rfl ?_ | refine G.gU rfl rfl rfl ?_))
  all_goals ((first | (refine G.gY rfl rfl ?_; refine G.op (og_callV rfl rfl (fun w _ => isPlace_any _ w)) rfl (fun _ _ => ?_)) | refine G.gN rfl rfl rfl ?_ | refine G.gU rfl rfl rfl ?_))
  all_goals ((first | refine G.v (rv_pickT rfl rfl) rfl ?_ | refine G.v (rv_pickF rfl rfl) rfl ?_))
  all_goals (refine G.v (rv_move rfl) rfl ?_)
  all_goals (((with_reducible refine G.gP rfl rfl (fun hg => ?_) (fun hg => ?_)) <;> (try exact Bool.noConfusion hg) <;> (first | (refine G.gY rfl rfl ?_; (first | refine G.v (rv_field rfl) rfl ?_ | refine G.v (rv_fieldE rfl) rfl ?_)) | refine G.gN rfl rfl rfl ?_ | refine G.gU rfl rfl rfl ?_)))
  all_goals ((first | (refine G.gY rfl rfl ?_; (first | refine G.v (rv_load1 0 rfl rfl rfl) rfl ?_ | refine G.v (rv_load1 1 rfl rfl rfl) rfl ?_ | refine G.v (rv_loadE rfl (by first | exact Rd.stays (by assumption) | exact Rd.owned 0 rfl | exact Rd.owned 1 rfl) (by assumption) rfl) rfl ?_)) | refine G.gN rfl rfl rfl ?_ | refine G.gU rfl rfl rfl ?_))
  all_goals ((first | (refine G.gY rfl rfl ?_; refine G.op (og_callV rfl rfl (fun w _ => isPlace_any _ w)) rfl (fun _ _ => ?_)) | refine G.gN rfl rfl rfl ?_ | refine G.gU rfl rfl rfl ?_))
  all_goals ((first | refine G.v (rv_pickT rfl rfl) rfl ?_ | refine G.v (rv_pickF rfl rfl) rfl ?_))
  all_goals (refine G.v (rv_move rfl) rfl ?_)
  all_goals (((with_reducible refine G.gP rfl rfl (fun hg => ?_) (fun hg => ?_)) <;> (try exact Bool.noConfusion hg) <;> (first | (refine G.gY rfl rfl ?_; (first | refine G.v (rv_field rfl) rfl ?_ | refine G.v (rv_fieldE rfl) rfl ?_)) | refine G.gN rfl rfl rfl ?_ | refine G.gU rfl rfl rfl ?_)))
  all_goals ((first | (refine G.gY rfl rfl ?_; (first | refine G.v (rv_load1 0 rfl rfl rfl) rfl ?_ | refine G.v (rv_load1 1 rfl rfl rfl) rfl ?_ | refine G.v (rv_loadE rfl (by first | exact Rd.stays (by assumption) | exact Rd.owned 0 rfl | exact Rd.owned 1 rfl) (by assumption) rfl) rfl ?_)) | refine G.gN rfl rfl rfl ?_ | refine G.gU rfl rfl rfl ?_))
  all_goals ((first | (refine G.gY rfl rfl ?_; refine G.op (og_callV rfl rfl (fun w _ => isPlace_any _ w)) rfl (fun _ _ => ?_)) | refine G.gN rfl rfl rfl ?_ | refine G.gU rfl rfl rfl ?_))
  all_goals ((first | refine G.v (rv_pickT rfl rfl) rfl ?_ | refine G.v (rv_pickF rfl rfl) rfl ?_))
  all_goals (refine G.v (rv_move rfl) rfl ?_)
  all_goals (((with_reducible refine G.gP rfl rfl (fun hg => ?_) (fun hg => ?_)) <;> (try exact Bool.noConfusion hg) <;> (first | (refine G.gY rfl rfl ?_; (first | refine G.v (rv_field rfl) rfl ?_ | refine G.v (rv_fieldE rfl) rfl ?_)) | refine G.gN rfl rfl rfl ?_ | refine G.gU rfl rfl rfl ?_)))
  all_goals ((first | (refine G.gY rfl rfl ?_; (first | refine G.v (rv_load1 0 rfl rfl rfl) rfl ?_ | refine G.v (rv_load1 1 rfl rfl rfl) rfl ?_ | refine G.v (rv_loadE rfl (by first | exact Rd.stays (by assumption) | exact Rd.owned 0 rfl | exact Rd.owned 1 rfl) (by assumption) rfl) rfl ?_)) | refine G.gN rfl rfl rfl ?_ | refine G.gU rfl rfl rfl ?_))
  all_goals ((first | (refine G.gY rfl rfl ?_; refine G.op (og_callV rfl rfl (fun w _ => isPlace_any _ w)) rfl (fun _ _ => ?_)) | refine G.gN rfl rfl rfl ?_ | refine G.gU rfl rfl rfl ?_))
  all_goals ((first | refine G.v (rv_pickT rfl rfl) rfl ?_ | refine G.v (rv_pickF rfl rfl) rfl ?_))
  all_goals (refine G.v (rv_assign rfl) rfl ?_)
  all_goals
   refine G.done ?_
   refine G.thenN ?_
   refine G.ret ?_
   refine G.retFV rfl rfl ?_; simp_all [placedM] <;> (intros; omega)
theorem l12Known_any (b : BoxM) (s : SpotM) (w : World) : FnV Try.prog 54 [b.val, s.val] w (.bool (placedM b s)) := by
  refine FnV.of (n := 33) Try.func54 rfl rfl ?_
  refine G.seq ?_
  refine G.region ?_
  refine G.op (og_box rfl rfl) rfl (fun b _ => ?_)
  refine G.op (og_box rfl rfl) rfl (fun b _ => ?_)
  refine G.v (rv_assign rfl) rfl ?_
  refine G.done ?_
  refine G.thenN ?_
  refine G.seq ?_
  refine G.region ?_
  (first | refine G.v (rv_field rfl) rfl ?_ | refine G.v (rv_fieldE rfl) rfl ?_)
  (first | refine G.v (rv_load1 0 rfl rfl rfl) rfl ?_ | refine G.v (rv_load1 1 rfl rfl rfl) rfl ?_ | refine G.v (rv_loadE rfl (by first | exact Rd.stays (by assumption) | exact Rd.owned 0 rfl | exact Rd.owned 1 rfl) (by assumption) rfl) rfl ?_)
  refine G.op (og_callV rfl rfl (fun w _ => l1In_any _ _ _ w)) rfl (fun _ _ => ?_)
  refine G.v (rv_move rfl) rfl ?_
  all_goals (((with_reducible refine G.gP rfl rfl (fun hg => ?_) (fun hg => ?_)) <;> (try exact Bool.noConfusion hg) <;> (first | (refine G.gY rfl rfl ?_; (first | refine G.v (rv_field rfl) rfl ?_ | refine G.v (rv_fieldE rfl) rfl ?_)) | refine G.gN rfl rfl rfl ?_ | refine G.gU rfl rfl rfl ?_)))
  all_goals ((first | (refine G.gY rfl rfl ?_; (first | refine G.v (rv_load1 0 rfl rfl rfl) rfl ?_ | refine G.v (rv_load1 1 rfl rfl rfl) rfl ?_ | refine G.v (rv_loadE rfl (by first | exact Rd.stays (by assumption) | exact Rd.owned 0 rfl | exact Rd.owned 1 rfl) (by assumption) rfl) rfl ?_)) | refine G.gN rfl rfl rfl ?_ | refine G.gU rfl rfl rfl ?_))
  all_goals ((first | (refine G.gY rfl rfl ?_; refine G.op (og_callV rfl rfl (fun w _ => l1In_any _ _ _ w)) rfl (fun _ _ => ?_)) | refine G.gN rfl rfl rfl ?_ | refine G.gU rfl rfl rfl ?_))
  all_goals ((first | refine G.v (rv_pickT rfl rfl) rfl ?_ | refine G.v (rv_pickF rfl rfl) rfl ?_))
  all_goals (refine G.v (rv_move rfl) rfl ?_)
  all_goals (((with_reducible refine G.gP rfl rfl (fun hg => ?_) (fun hg => ?_)) <;> (try exact Bool.noConfusion hg) <;> (first | (refine G.gY rfl rfl ?_; (first | refine G.v (rv_field rfl) rfl ?_ | refine G.v (rv_fieldE rfl) rfl ?_)) | refine G.gN rfl rfl rfl ?_ | refine G.gU rfl rfl rfl ?_)))
  all_goals ((first | (refine G.gY rfl rfl ?_; (first | refine G.v (rv_load1 0 rfl rfl rfl) rfl ?_ | refine G.v (rv_load1 1 rfl rfl rfl) rfl ?_ | refine G.v (rv_loadE rfl (by first | exact Rd.stays (by assumption) | exact Rd.owned 0 rfl | exact Rd.owned 1 rfl) (by assumption) rfl) rfl ?_)) | refine G.gN rfl rfl rfl ?_ | refine G.gU rfl rfl rfl ?_))
  all_goals ((first | (refine G.gY rfl rfl ?_; refine G.op (og_callV rfl rfl (fun w _ => l1In_any _ _ _ w)) rfl (fun _ _ => ?_)) | refine G.gN rfl rfl rfl ?_ | refine G.gU rfl rfl rfl ?_))
  all_goals ((first | refine G.v (rv_pickT rfl rfl) rfl ?_ | refine G.v (rv_pickF rfl rfl) rfl ?_))
  all_goals (refine G.v (rv_move rfl) rfl ?_)
  all_goals (((with_reducible refine G.gP rfl rfl (fun hg => ?_) (fun hg => ?_)) <;> (try exact Bool.noConfusion hg) <;> (first | (refine G.gY rfl rfl ?_; (first | refine G.v (rv_field rfl) rfl ?_ | refine G.v (rv_fieldE rfl) rfl ?_)) | refine G.gN rfl rfl rfl ?_ | refine G.gU rfl rfl rfl ?_)))
  all_goals ((first | (refine G.gY rfl rfl ?_; (first | refine G.v (rv_load1 0 rfl rfl rfl) rfl ?_ | refine G.v (rv_load1 1 rfl rfl rfl) rfl ?_ | refine G.v (rv_loadE rfl (by first | exact Rd.stays (by assumption) | exact Rd.owned 0 rfl | exact Rd.owned 1 rfl) (by assumption) rfl) rfl ?_)) | refine G.gN rfl rfl rfl ?_ | refine G.gU rfl rfl rfl ?_))
  all_goals ((first | (refine G.gY rfl rfl ?_; refine G.op (og_callV rfl rfl (fun w _ => l1In_any _ _ _ w)) rfl (fun _ _ => ?_)) | refine G.gN rfl rfl rfl ?_ | refine G.gU rfl rfl rfl ?_))
  all_goals ((first | refine G.v (rv_pickT rfl rfl) rfl ?_ | refine G.v (rv_pickF rfl rfl) rfl ?_))
  all_goals (refine G.v (rv_move rfl) rfl ?_)
  all_goals (((with_reducible refine G.gP rfl rfl (fun hg => ?_) (fun hg => ?_)) <;> (try exact Bool.noConfusion hg) <;> (first | (refine G.gY rfl rfl ?_; (first | refine G.v (rv_field rfl) rfl ?_ | refine G.v (rv_fieldE rfl) rfl ?_)) | refine G.gN rfl rfl rfl ?_ | refine G.gU rfl rfl rfl ?_)))
  all_goals ((first | (refine G.gY rfl rfl ?_; (first | refine G.v (rv_load1 0 rfl rfl rfl) rfl ?_ | refine G.v (rv_load1 1 rfl rfl rfl) rfl ?_ | refine G.v (rv_loadE rfl (by first | exact Rd.stays (by assumption) | exact Rd.owned 0 rfl | exact Rd.owned 1 rfl) (by assumption) rfl) rfl ?_)) | refine G.gN rfl rfl rfl ?_ | refine G.gU rfl rfl rfl ?_))
  all_goals ((first | (refine G.gY rfl rfl ?_; refine G.op (og_callV rfl rfl (fun w _ => l1In_any _ _ _ w)) rfl (fun _ _ => ?_)) | refine G.gN rfl rfl rfl ?_ | refine G.gU rfl rfl rfl ?_))
  all_goals ((first | refine G.v (rv_pickT rfl rfl) rfl ?_ | refine G.v (rv_pickF rfl rfl) rfl ?_))
  all_goals (refine G.v (rv_move rfl) rfl ?_)
  all_goals (((with_reducible refine G.gP rfl rfl (fun hg => ?_) (fun hg => ?_)) <;> (try exact Bool.noConfusion hg) <;> (first | (refine G.gY rfl rfl ?_; (first | refine G.v (rv_field rfl) rfl ?_ | refine G.v (rv_fieldE rfl) rfl ?_)) | refine G.gN rfl rfl rfl ?_ | refine G.gU rfl rfl rfl ?_)))
  all_goals ((first | (refine G.gY rfl rfl ?_; (first | refine G.v (rv_load1 0 rfl rfl rfl) rfl ?_ | refine G.v (rv_load1 1 rfl rfl rfl) rfl ?_ | refine G.v (rv_loadE rfl (by first | exact Rd.stays (by assumption) | exact Rd.owned 0 rfl | exact Rd.owned 1 rfl) (by assumption) rfl) rfl ?_)) | refine G.gN rfl rfl rfl ?_ | refine G.gU rfl rfl rfl ?_))
  all_goals ((first | (refine G.gY rfl rfl ?_; refine G.op (og_callV rfl rfl (fun w _ => l1In_any _ _ _ w)) rfl (fun _ _ => ?_)) | refine G.gN rfl rfl rfl ?_ | refine G.gU rfl rfl rfl ?_))
  all_goals ((first | refine G.v (rv_pickT rfl rfl) rfl ?_ | refine G.v (rv_pickF rfl rfl) rfl ?_))
  all_goals (refine G.v (rv_assign rfl) rfl ?_)
  all_goals
   refine G.done ?_
   refine G.thenN ?_
   refine G.ret ?_
   refine G.retFV rfl rfl ?_; simp_all [placedM] <;> (intros; omega)
theorem cross_any (a long b other : Int) (w : World) : FnV Try.prog 57 [.int .i64 a, .int .i64 long, .int .i64 b, .int .i64 other] w (.bool (crossM a long b other)) := by
  refine FnV.of (n := 21) Try.func57 rfl rfl ?_
  refine G.seq ?_
  refine G.region ?_
  refine G.v (rv_assign rfl) rfl ?_
  refine G.done ?_
  refine G.thenN ?_
  refine G.seq ?_
  refine G.region ?_
  refine G.v (rv_move rfl) rfl ?_
  refine G.v (rv_move rfl) rfl ?_
  refine G.v (rv_move rfl) rfl ?_
  (first | refine G.v (rv_incr rfl rfl (by omega)) rfl ?_ | refine G.v (rv_addB rfl rfl (by omega) (by omega)) rfl ?_ | refine G.v (rv_add rfl rfl) rfl ?_)
  refine G.v (rv_lss rfl rfl) rfl ?_
  refine G.v (rv_move rfl) rfl ?_
  all_goals (((with_reducible refine G.gP rfl rfl (fun hg => ?_) (fun hg => ?_)) <;> (try exact Bool.noConfusion hg) <;> (first | (refine G.gY rfl rfl ?_; refine G.v (rv_move rfl) rfl ?_) | refine G.gN rfl rfl rfl ?_ | refine G.gU rfl rfl rfl ?_)))
  all_goals ((first | (refine G.gY rfl rfl ?_; refine G.v (rv_move rfl) rfl ?_) | refine G.gN rfl rfl rfl ?_ | refine G.gU rfl rfl rfl ?_))
  all_goals ((first | (refine G.gY rfl rfl ?_; refine G.v (rv_move rfl) rfl ?_) | refine G.gN rfl rfl rfl ?_ | refine G.gU rfl rfl rfl ?_))
  all_goals ((first | (refine G.gY rfl rfl ?_; (first | refine G.v (rv_incr rfl rfl (by omega)) rfl ?_ | refine G.v (rv_addB rfl rfl (by omega) (by omega)) rfl ?_ | refine G.v (rv_add rfl rfl) rfl ?_)) | refine G.gN rfl rfl rfl ?_ | refine G.gU rfl rfl rfl ?_))
  all_goals ((first | (refine G.gY rfl rfl ?_; refine G.v (rv_lss rfl rfl) rfl ?_) | refine G.gN rfl rfl rfl ?_ | refine G.gU rfl rfl rfl ?_))
  all_goals ((first | refine G.v (rv_pickT rfl rfl) rfl ?_ | refine G.v (rv_pickF rfl rfl) rfl ?_))
  all_goals (refine G.v (rv_assign rfl) rfl ?_)
  all_goals
   refine G.done ?_
   refine G.thenN ?_
   refine G.ret ?_
   refine G.retFV rfl rfl ?_; simp_all [crossM] <;> (intros; omega)
theorem l12Cross_any (a long b other : Int) (w : World) : FnV Try.prog 55 [.int .i64 a, .int .i64 long, .int .i64 b, .int .i64 other] w (.bool (crossM a long b other)) := by
  refine FnV.of (n := 21) Try.func55 rfl rfl ?_
  refine G.seq ?_
  refine G.region ?_
  refine G.v (rv_assign rfl) rfl ?_
  refine G.done ?_
  refine G.thenN ?_
  refine G.seq ?_
  refine G.region ?_
  refine G.v (rv_move rfl) rfl ?_
  refine G.v (rv_move rfl) rfl ?_
  refine G.v (rv_move rfl) rfl ?_
  (first | refine G.v (rv_incr rfl rfl (by omega)) rfl ?_ | refine G.v (rv_addB rfl rfl (by omega) (by omega)) rfl ?_ | refine G.v (rv_add rfl rfl) rfl ?_)
  refine G.v (rv_lss rfl rfl) rfl ?_
  refine G.v (rv_move rfl) rfl ?_
  all_goals (((with_reducible refine G.gP rfl rfl (fun hg => ?_) (fun hg => ?_)) <;> (try exact Bool.noConfusion hg) <;> (first | (refine G.gY rfl rfl ?_; refine G.v (rv_move rfl) rfl ?_) | refine G.gN rfl rfl rfl ?_ | refine G.gU rfl rfl rfl ?_)))
  all_goals ((first | (refine G.gY rfl rfl ?_; refine G.v (rv_move rfl) rfl ?_) | refine G.gN rfl rfl rfl ?_ | refine G.gU rfl rfl rfl ?_))
  all_goals ((first | (refine G.gY rfl rfl ?_; refine G.v (rv_move rfl) rfl ?_) | refine G.gN rfl rfl rfl ?_ | refine G.gU rfl rfl rfl ?_))
  all_goals ((first | (refine G.gY rfl rfl ?_; (first | refine G.v (rv_incr rfl rfl (by omega)) rfl ?_ | refine G.v (rv_addB rfl rfl (by omega) (by omega)) rfl ?_ | refine G.v (rv_add rfl rfl) rfl ?_)) | refine G.gN rfl rfl rfl ?_ | refine G.gU rfl rfl rfl ?_))
  all_goals ((first | (refine G.gY rfl rfl ?_; refine G.v (rv_lss rfl rfl) rfl ?_) | refine G.gN rfl rfl rfl ?_ | refine G.gU rfl rfl rfl ?_))
  all_goals ((first | refine G.v (rv_pickT rfl rfl) rfl ?_ | refine G.v (rv_pickF rfl rfl) rfl ?_))
  all_goals (refine G.v (rv_assign rfl) rfl ?_)
  all_goals
   refine G.done ?_
   refine G.thenN ?_
   refine G.ret ?_
   refine G.retFV rfl rfl ?_; simp_all [crossM] <;> (intros; omega)
theorem overlap_any (a : BoxM) (s : SpotM) (b : BoxM) (t : SpotM) (w : World) : FnV Try.prog 17 [a.val, s.val, b.val, t.val] w (.bool (overlapM a s b t)) := by
  refine FnV.of (n := 57) Try.func17 rfl rfl ?_
  refine G.seq ?_
  refine G.region ?_
  refine G.op (og_box rfl rfl) rfl (fun b _ => ?_)
  refine G.op (og_box rfl rfl) rfl (fun b _ => ?_)
  refine G.op (og_box rfl rfl) rfl (fun b _ => ?_)
  refine G.op (og_box rfl rfl) rfl (fun b _ => ?_)
  refine G.v (rv_assign rfl) rfl ?_
  refine G.done ?_
  refine G.thenN ?_
  refine G.seq ?_
  refine G.seq ?_
  refine G.region ?_
  (first | refine G.v (rv_loadW 0 rfl rfl rfl) rfl ?_ | refine G.v (rv_loadW 1 rfl rfl rfl) rfl ?_ | refine G.v (rv_loadW 2 rfl rfl rfl) rfl ?_ | refine G.v (rv_loadW 3 rfl rfl rfl) rfl ?_ | refine G.v (rv_loadEW rfl (by first | exact Rd.stays (by assumption) | exact Rd.owned 0 rfl | exact Rd.owned 1 rfl | exact Rd.owned 2 rfl | exact Rd.owned 3 rfl) (by assumption) rfl) rfl ?_ | refine G.v (rv_loadS 0 rfl rfl rfl rfl) rfl ?_ | refine G.v (rv_loadS 1 rfl rfl rfl rfl) rfl ?_ | refine G.v (rv_loadS 2 rfl rfl rfl rfl) rfl ?_ | refine G.v (rv_loadS 3 rfl rfl rfl rfl) rfl ?_ | refine G.v (rv_loadES rfl (by first | exact Rd.stays (by assumption) | exact Rd.owned 0 rfl | exact Rd.owned 1 rfl | exact Rd.owned 2 rfl | exact Rd.owned 3 rfl) (by assumption) rfl rfl) rfl ?_)
  (first | refine G.v (rv_loadW 0 rfl rfl rfl) rfl ?_ | refine G.v (rv_loadW 1 rfl rfl rfl) rfl ?_ | refine G.v (rv_loadW 2 rfl rfl rfl) rfl ?_ | refine G.v (rv_loadW 3 rfl rfl rfl) rfl ?_ | refine G.v (rv_loadEW rfl (by first | exact Rd.stays (by assumption) | exact Rd.owned 0 rfl | exact Rd.owned 1 rfl | exact Rd.owned 2 rfl | exact Rd.owned 3 rfl) (by assumption) rfl) rfl ?_ | refine G.v (rv_loadS 0 rfl rfl rfl rfl) rfl ?_ | refine G.v (rv_loadS 1 rfl rfl rfl rfl) rfl ?_ | refine G.v (rv_loadS 2 rfl rfl rfl rfl) rfl ?_ | refine G.v (rv_loadS 3 rfl rfl rfl rfl) rfl ?_ | refine G.v (rv_loadES rfl (by first | exact Rd.stays (by assumption) | exact Rd.owned 0 rfl | exact Rd.owned 1 rfl | exact Rd.owned 2 rfl | exact Rd.owned 3 rfl) (by assumption) rfl rfl) rfl ?_)
  refine G.op (og_callV rfl rfl (fun w _ => placed_any _ _ w)) rfl (fun _ _ => ?_)
  refine G.v (rv_not rfl) rfl ?_
  refine G.v (rv_move rfl) rfl ?_
  all_goals (((with_reducible refine G.gP rfl rfl (fun hg => ?_) (fun hg => ?_)) <;> (try exact Bool.noConfusion hg) <;> (first | (refine G.gY rfl rfl ?_; (first | refine G.v (rv_loadW 0 rfl rfl rfl) rfl ?_ | refine G.v (rv_loadW 1 rfl rfl rfl) rfl ?_ | refine G.v (rv_loadW 2 rfl rfl rfl) rfl ?_ | refine G.v (rv_loadW 3 rfl rfl rfl) rfl ?_ | refine G.v (rv_loadEW rfl (by first | exact Rd.stays (by assumption) | exact Rd.owned 0 rfl | exact Rd.owned 1 rfl | exact Rd.owned 2 rfl | exact Rd.owned 3 rfl) (by assumption) rfl) rfl ?_ | refine G.v (rv_loadS 0 rfl rfl rfl rfl) rfl ?_ | refine G.v (rv_loadS 1 rfl rfl rfl rfl) rfl ?_ | refine G.v (rv_loadS 2 rfl rfl rfl rfl) rfl ?_ | refine G.v (rv_loadS 3 rfl rfl rfl rfl) rfl ?_ | refine G.v (rv_loadES rfl (by first | exact Rd.stays (by assumption) | exact Rd.owned 0 rfl | exact Rd.owned 1 rfl | exact Rd.owned 2 rfl | exact Rd.owned 3 rfl) (by assumption) rfl rfl) rfl ?_)) | refine G.gN rfl rfl rfl ?_ | refine G.gU rfl rfl rfl ?_)))
  all_goals ((first | (refine G.gY rfl rfl ?_; (first | refine G.v (rv_loadW 0 rfl rfl rfl) rfl ?_ | refine G.v (rv_loadW 1 rfl rfl rfl) rfl ?_ | refine G.v (rv_loadW 2 rfl rfl rfl) rfl ?_ | refine G.v (rv_loadW 3 rfl rfl rfl) rfl ?_ | refine G.v (rv_loadEW rfl (by first | exact Rd.stays (by assumption) | exact Rd.owned 0 rfl | exact Rd.owned 1 rfl | exact Rd.owned 2 rfl | exact Rd.owned 3 rfl) (by assumption) rfl) rfl ?_ | refine G.v (rv_loadS 0 rfl rfl rfl rfl) rfl ?_ | refine G.v (rv_loadS 1 rfl rfl rfl rfl) rfl ?_ | refine G.v (rv_loadS 2 rfl rfl rfl rfl) rfl ?_ | refine G.v (rv_loadS 3 rfl rfl rfl rfl) rfl ?_ | refine G.v (rv_loadES rfl (by first | exact Rd.stays (by assumption) | exact Rd.owned 0 rfl | exact Rd.owned 1 rfl | exact Rd.owned 2 rfl | exact Rd.owned 3 rfl) (by assumption) rfl rfl) rfl ?_)) | refine G.gN rfl rfl rfl ?_ | refine G.gU rfl rfl rfl ?_))
  all_goals ((first | (refine G.gY rfl rfl ?_; refine G.op (og_callV rfl rfl (fun w _ => placed_any _ _ w)) rfl (fun _ _ => ?_)) | refine G.gN rfl rfl rfl ?_ | refine G.gU rfl rfl rfl ?_))
  all_goals ((first | (refine G.gY rfl rfl ?_; refine G.v (rv_not rfl) rfl ?_) | refine G.gN rfl rfl rfl ?_ | refine G.gU rfl rfl rfl ?_))
  all_goals ((first | refine G.v (rv_pickT rfl rfl) rfl ?_ | refine G.v (rv_pickF rfl rfl) rfl ?_))
  all_goals (refine G.v (rv_move rfl) rfl ?_)
  all_goals (((with_reducible refine G.gP rfl rfl (fun hg => ?_) (fun hg => ?_)) <;> (try exact Bool.noConfusion hg) <;> (first | (refine G.gY rfl rfl ?_; (first | refine G.v (rv_field rfl) rfl ?_ | refine G.v (rv_fieldE rfl) rfl ?_)) | refine G.gN rfl rfl rfl ?_ | refine G.gU rfl rfl rfl ?_)))
  all_goals ((first | (refine G.gY rfl rfl ?_; (first | refine G.v (rv_load1 0 rfl rfl rfl) rfl ?_ | refine G.v (rv_load1 1 rfl rfl rfl) rfl ?_ | refine G.v (rv_load1 2 rfl rfl rfl) rfl ?_ | refine G.v (rv_load1 3 rfl rfl rfl) rfl ?_ | refine G.v (rv_loadE rfl (by first | exact Rd.stays (by assumption) | exact Rd.owned 0 rfl | exact Rd.owned 1 rfl | exact Rd.owned 2 rfl | exact Rd.owned 3 rfl) (by assumption) rfl) rfl ?_)) | refine G.gN rfl rfl rfl ?_ | refine G.gU rfl rfl rfl ?_))
  all_goals ((first | (refine G.gY rfl rfl ?_; (first | refine G.v (rv_field rfl) rfl ?_ | refine G.v (rv_fieldE rfl) rfl ?_)) | refine G.gN rfl rfl rfl ?_ | refine G.gU rfl rfl rfl ?_))
  all_goals ((first | (refine G.gY rfl rfl ?_; (first | refine G.v (rv_load1 0 rfl rfl rfl) rfl ?_ | refine G.v (rv_load1 1 rfl rfl rfl) rfl ?_ | refine G.v (rv_load1 2 rfl rfl rfl) rfl ?_ | refine G.v (rv_load1 3 rfl rfl rfl) rfl ?_ | refine G.v (rv_loadE rfl (by first | exact Rd.stays (by assumption) | exact Rd.owned 0 rfl | exact Rd.owned 1 rfl | exact Rd.owned 2 rfl | exact Rd.owned 3 rfl) (by assumption) rfl) rfl ?_)) | refine G.gN rfl rfl rfl ?_ | refine G.gU rfl rfl rfl ?_))
  all_goals ((first | (refine G.gY rfl rfl ?_; refine G.v (rv_neq rfl rfl) rfl ?_) | refine G.gN rfl rfl rfl ?_ | refine G.gU rfl rfl rfl ?_))
  all_goals ((first | refine G.v (rv_pickT rfl rfl) rfl ?_ | refine G.v (rv_pickF rfl rfl) rfl ?_))
  all_goals
   refine G.done ?_
   refine G.thenN ?_
   refine G.cond rfl (fun hc => ?_) (fun hc => ?_)
   · try exact Bool.noConfusion hc
     all_goals
      try replace hc := of_decide_eq_true hc
      try (exfalso; first | contradiction | omega)
      all_goals
       refine G.seq ?_
       refine G.region ?_
       refine G.v (rv_assign rfl) rfl ?_
       refine G.done ?_
       refine G.thenN ?_
       refine G.ret ?_
       refine G.thenR ?_
       refine G.retFV rfl rfl ?_; simp_all [overlapM] <;> (intros; omega)
   · try exact Bool.noConfusion hc
     all_goals
      try replace hc := of_decide_eq_false hc
      try (exfalso; first | contradiction | omega)
      all_goals
       refine G.skip ?_
       refine G.thenN ?_
       refine G.seq ?_
       refine G.region ?_
       (first | refine G.v (rv_field rfl) rfl ?_ | refine G.v (rv_fieldE rfl) rfl ?_)
       (first | refine G.v (rv_load1 0 rfl rfl rfl) rfl ?_ | refine G.v (rv_load1 1 rfl rfl rfl) rfl ?_ | refine G.v (rv_load1 2 rfl rfl rfl) rfl ?_ | refine G.v (rv_load1 3 rfl rfl rfl) rfl ?_ | refine G.v (rv_loadE rfl (by first | exact Rd.stays (by assumption) | exact Rd.owned 0 rfl | exact Rd.owned 1 rfl | exact Rd.owned 2 rfl | exact Rd.owned 3 rfl) (by assumption) rfl) rfl ?_)
       (first | refine G.v (rv_field rfl) rfl ?_ | refine G.v (rv_fieldE rfl) rfl ?_)
       (first | refine G.v (rv_load1 0 rfl rfl rfl) rfl ?_ | refine G.v (rv_load1 1 rfl rfl rfl) rfl ?_ | refine G.v (rv_load1 2 rfl rfl rfl) rfl ?_ | refine G.v (rv_load1 3 rfl rfl rfl) rfl ?_ | refine G.v (rv_loadE rfl (by first | exact Rd.stays (by assumption) | exact Rd.owned 0 rfl | exact Rd.owned 1 rfl | exact Rd.owned 2 rfl | exact Rd.owned 3 rfl) (by assumption) rfl) rfl ?_)
       (first | refine G.v (rv_field rfl) rfl ?_ | refine G.v (rv_fieldE rfl) rfl ?_)
       (first | refine G.v (rv_load1 0 rfl rfl rfl) rfl ?_ | refine G.v (rv_load1 1 rfl rfl rfl) rfl ?_ | refine G.v (rv_load1 2 rfl rfl rfl) rfl ?_ | refine G.v (rv_load1 3 rfl rfl rfl) rfl ?_ | refine G.v (rv_loadE rfl (by first | exact Rd.stays (by assumption) | exact Rd.owned 0 rfl | exact Rd.owned 1 rfl | exact Rd.owned 2 rfl | exact Rd.owned 3 rfl) (by assumption) rfl) rfl ?_)
       (first | refine G.v (rv_field rfl) rfl ?_ | refine G.v (rv_fieldE rfl) rfl ?_)
       (first | refine G.v (rv_load1 0 rfl rfl rfl) rfl ?_ | refine G.v (rv_load1 1 rfl rfl rfl) rfl ?_ | refine G.v (rv_load1 2 rfl rfl rfl) rfl ?_ | refine G.v (rv_load1 3 rfl rfl rfl) rfl ?_ | refine G.v (rv_loadE rfl (by first | exact Rd.stays (by assumption) | exact Rd.owned 0 rfl | exact Rd.owned 1 rfl | exact Rd.owned 2 rfl | exact Rd.owned 3 rfl) (by assumption) rfl) rfl ?_)
       refine G.op (og_callV rfl rfl (fun w _ => cross_any _ _ _ _ w)) rfl (fun _ _ => ?_)
       refine G.v (rv_move rfl) rfl ?_
       all_goals (((with_reducible refine G.gP rfl rfl (fun hg => ?_) (fun hg => ?_)) <;> (try exact Bool.noConfusion hg) <;> (first | (refine G.gY rfl rfl ?_; (first | refine G.v (rv_field rfl) rfl ?_ | refine G.v (rv_fieldE rfl) rfl ?_)) | refine G.gN rfl rfl rfl ?_ | refine G.gU rfl rfl rfl ?_)))
       all_goals ((first | (refine G.gY rfl rfl ?_; (first | refine G.v (rv_load1 0 rfl rfl rfl) rfl ?_ | refine G.v (rv_load1 1 rfl rfl rfl) rfl ?_ | refine G.v (rv_load1 2 rfl rfl rfl) rfl ?_ | refine G.v (rv_load1 3 rfl rfl rfl) rfl ?_ | refine G.v (rv_loadE rfl (by first | exact Rd.stays (by assumption) | exact Rd.owned 0 rfl | exact Rd.owned 1 rfl | exact Rd.owned 2 rfl | exact Rd.owned 3 rfl) (by assumption) rfl) rfl ?_)) | refine G.gN rfl rfl rfl ?_ | refine G.gU rfl rfl rfl ?_))
       all_goals ((first | (refine G.gY rfl rfl ?_; (first | refine G.v (rv_field rfl) rfl ?_ | refine G.v (rv_fieldE rfl) rfl ?_)) | refine G.gN rfl rfl rfl ?_ | refine G.gU rfl rfl rfl ?_))
       all_goals ((first | (refine G.gY rfl rfl ?_; (first | refine G.v (rv_load1 0 rfl rfl rfl) rfl ?_ | refine G.v (rv_load1 1 rfl rfl rfl) rfl ?_ | refine G.v (rv_load1 2 rfl rfl rfl) rfl ?_ | refine G.v (rv_load1 3 rfl rfl rfl) rfl ?_ | refine G.v (rv_loadE rfl (by first | exact Rd.stays (by assumption) | exact Rd.owned 0 rfl | exact Rd.owned 1 rfl | exact Rd.owned 2 rfl | exact Rd.owned 3 rfl) (by assumption) rfl) rfl ?_)) | refine G.gN rfl rfl rfl ?_ | refine G.gU rfl rfl rfl ?_))
       all_goals ((first | (refine G.gY rfl rfl ?_; (first | refine G.v (rv_field rfl) rfl ?_ | refine G.v (rv_fieldE rfl) rfl ?_)) | refine G.gN rfl rfl rfl ?_ | refine G.gU rfl rfl rfl ?_))
       all_goals ((first | (refine G.gY rfl rfl ?_; (first | refine G.v (rv_load1 0 rfl rfl rfl) rfl ?_ | refine G.v (rv_load1 1 rfl rfl rfl) rfl ?_ | refine G.v (rv_load1 2 rfl rfl rfl) rfl ?_ | refine G.v (rv_load1 3 rfl rfl rfl) rfl ?_ | refine G.v (rv_loadE rfl (by first | exact Rd.stays (by assumption) | exact Rd.owned 0 rfl | exact Rd.owned 1 rfl | exact Rd.owned 2 rfl | exact Rd.owned 3 rfl) (by assumption) rfl) rfl ?_)) | refine G.gN rfl rfl rfl ?_ | refine G.gU rfl rfl rfl ?_))
       all_goals ((first | (refine G.gY rfl rfl ?_; (first | refine G.v (rv_field rfl) rfl ?_ | refine G.v (rv_fieldE rfl) rfl ?_)) | refine G.gN rfl rfl rfl ?_ | refine G.gU rfl rfl rfl ?_))
       all_goals ((first | (refine G.gY rfl rfl ?_; (first | refine G.v (rv_load1 0 rfl rfl rfl) rfl ?_ | refine G.v (rv_load1 1 rfl rfl rfl) rfl ?_ | refine G.v (rv_load1 2 rfl rfl rfl) rfl ?_ | refine G.v (rv_load1 3 rfl rfl rfl) rfl ?_ | refine G.v (rv_loadE rfl (by first | exact Rd.stays (by assumption) | exact Rd.owned 0 rfl | exact Rd.owned 1 rfl | exact Rd.owned 2 rfl | exact Rd.owned 3 rfl) (by assumption) rfl) rfl ?_)) | refine G.gN rfl rfl rfl ?_ | refine G.gU rfl rfl rfl ?_))
       all_goals ((first | (refine G.gY rfl rfl ?_; refine G.op (og_callV rfl rfl (fun w _ => cross_any _ _ _ _ w)) rfl (fun _ _ => ?_)) | refine G.gN rfl rfl rfl ?_ | refine G.gU rfl rfl rfl ?_))
       all_goals ((first | refine G.v (rv_pickT rfl rfl) rfl ?_ | refine G.v (rv_pickF rfl rfl) rfl ?_))
       all_goals (refine G.v (rv_move rfl) rfl ?_)
       all_goals (((with_reducible refine G.gP rfl rfl (fun hg => ?_) (fun hg => ?_)) <;> (try exact Bool.noConfusion hg) <;> (first | (refine G.gY rfl rfl ?_; (first | refine G.v (rv_field rfl) rfl ?_ | refine G.v (rv_fieldE rfl) rfl ?_)) | refine G.gN rfl rfl rfl ?_ | refine G.gU rfl rfl rfl ?_)))
       all_goals ((first | (refine G.gY rfl rfl ?_; (first | refine G.v (rv_load1 0 rfl rfl rfl) rfl ?_ | refine G.v (rv_load1 1 rfl rfl rfl) rfl ?_ | refine G.v (rv_load1 2 rfl rfl rfl) rfl ?_ | refine G.v (rv_load1 3 rfl rfl rfl) rfl ?_ | refine G.v (rv_loadE rfl (by first | exact Rd.stays (by assumption) | exact Rd.owned 0 rfl | exact Rd.owned 1 rfl | exact Rd.owned 2 rfl | exact Rd.owned 3 rfl) (by assumption) rfl) rfl ?_)) | refine G.gN rfl rfl rfl ?_ | refine G.gU rfl rfl rfl ?_))
       all_goals ((first | (refine G.gY rfl rfl ?_; (first | refine G.v (rv_field rfl) rfl ?_ | refine G.v (rv_fieldE rfl) rfl ?_)) | refine G.gN rfl rfl rfl ?_ | refine G.gU rfl rfl rfl ?_))
       all_goals ((first | (refine G.gY rfl rfl ?_; (first | refine G.v (rv_load1 0 rfl rfl rfl) rfl ?_ | refine G.v (rv_load1 1 rfl rfl rfl) rfl ?_ | refine G.v (rv_load1 2 rfl rfl rfl) rfl ?_ | refine G.v (rv_load1 3 rfl rfl rfl) rfl ?_ | refine G.v (rv_loadE rfl (by first | exact Rd.stays (by assumption) | exact Rd.owned 0 rfl | exact Rd.owned 1 rfl | exact Rd.owned 2 rfl | exact Rd.owned 3 rfl) (by assumption) rfl) rfl ?_)) | refine G.gN rfl rfl rfl ?_ | refine G.gU rfl rfl rfl ?_))
       all_goals ((first | (refine G.gY rfl rfl ?_; (first | refine G.v (rv_field rfl) rfl ?_ | refine G.v (rv_fieldE rfl) rfl ?_)) | refine G.gN rfl rfl rfl ?_ | refine G.gU rfl rfl rfl ?_))
       all_goals ((first | (refine G.gY rfl rfl ?_; (first | refine G.v (rv_load1 0 rfl rfl rfl) rfl ?_ | refine G.v (rv_load1 1 rfl rfl rfl) rfl ?_ | refine G.v (rv_load1 2 rfl rfl rfl) rfl ?_ | refine G.v (rv_load1 3 rfl rfl rfl) rfl ?_ | refine G.v (rv_loadE rfl (by first | exact Rd.stays (by assumption) | exact Rd.owned 0 rfl | exact Rd.owned 1 rfl | exact Rd.owned 2 rfl | exact Rd.owned 3 rfl) (by assumption) rfl) rfl ?_)) | refine G.gN rfl rfl rfl ?_ | refine G.gU rfl rfl rfl ?_))
       all_goals ((first | (refine G.gY rfl rfl ?_; (first | refine G.v (rv_field rfl) rfl ?_ | refine G.v (rv_fieldE rfl) rfl ?_)) | refine G.gN rfl rfl rfl ?_ | refine G.gU rfl rfl rfl ?_))
       all_goals ((first | (refine G.gY rfl rfl ?_; (first | refine G.v (rv_load1 0 rfl rfl rfl) rfl ?_ | refine G.v (rv_load1 1 rfl rfl rfl) rfl ?_ | refine G.v (rv_load1 2 rfl rfl rfl) rfl ?_ | refine G.v (rv_load1 3 rfl rfl rfl) rfl ?_ | refine G.v (rv_loadE rfl (by first | exact Rd.stays (by assumption) | exact Rd.owned 0 rfl | exact Rd.owned 1 rfl | exact Rd.owned 2 rfl | exact Rd.owned 3 rfl) (by assumption) rfl) rfl ?_)) | refine G.gN rfl rfl rfl ?_ | refine G.gU rfl rfl rfl ?_))
       all_goals ((first | (refine G.gY rfl rfl ?_; refine G.op (og_callV rfl rfl (fun w _ => cross_any _ _ _ _ w)) rfl (fun _ _ => ?_)) | refine G.gN rfl rfl rfl ?_ | refine G.gU rfl rfl rfl ?_))
       all_goals ((first | refine G.v (rv_pickT rfl rfl) rfl ?_ | refine G.v (rv_pickF rfl rfl) rfl ?_))
       all_goals (refine G.v (rv_assign rfl) rfl ?_)
       all_goals
        refine G.done ?_
        refine G.thenN ?_
        refine G.ret ?_
        refine G.retFV rfl rfl ?_; simp_all [overlapM] <;> (intros; omega)
theorem soverlap_any (a : BoxM) (s : SpotM) (b : BoxM) (t : SpotM) (w : World) : FnV Try.prog 14 [a.val, s.val, b.val, t.val] w (.bool (overlapM a s b t)) := by
  refine FnV.of (n := 57) Try.func14 rfl rfl ?_
  refine G.seq ?_
  refine G.region ?_
  refine G.op (og_box rfl rfl) rfl (fun b _ => ?_)
  refine G.op (og_box rfl rfl) rfl (fun b _ => ?_)
  refine G.op (og_box rfl rfl) rfl (fun b _ => ?_)
  refine G.op (og_box rfl rfl) rfl (fun b _ => ?_)
  refine G.v (rv_assign rfl) rfl ?_
  refine G.done ?_
  refine G.thenN ?_
  refine G.seq ?_
  refine G.region ?_
  (first | refine G.v (rv_loadW 0 rfl rfl rfl) rfl ?_ | refine G.v (rv_loadW 1 rfl rfl rfl) rfl ?_ | refine G.v (rv_loadW 2 rfl rfl rfl) rfl ?_ | refine G.v (rv_loadW 3 rfl rfl rfl) rfl ?_ | refine G.v (rv_loadEW rfl (by first | exact Rd.stays (by assumption) | exact Rd.owned 0 rfl | exact Rd.owned 1 rfl | exact Rd.owned 2 rfl | exact Rd.owned 3 rfl) (by assumption) rfl) rfl ?_ | refine G.v (rv_loadS 0 rfl rfl rfl rfl) rfl ?_ | refine G.v (rv_loadS 1 rfl rfl rfl rfl) rfl ?_ | refine G.v (rv_loadS 2 rfl rfl rfl rfl) rfl ?_ | refine G.v (rv_loadS 3 rfl rfl rfl rfl) rfl ?_ | refine G.v (rv_loadES rfl (by first | exact Rd.stays (by assumption) | exact Rd.owned 0 rfl | exact Rd.owned 1 rfl | exact Rd.owned 2 rfl | exact Rd.owned 3 rfl) (by assumption) rfl rfl) rfl ?_)
  (first | refine G.v (rv_loadW 0 rfl rfl rfl) rfl ?_ | refine G.v (rv_loadW 1 rfl rfl rfl) rfl ?_ | refine G.v (rv_loadW 2 rfl rfl rfl) rfl ?_ | refine G.v (rv_loadW 3 rfl rfl rfl) rfl ?_ | refine G.v (rv_loadEW rfl (by first | exact Rd.stays (by assumption) | exact Rd.owned 0 rfl | exact Rd.owned 1 rfl | exact Rd.owned 2 rfl | exact Rd.owned 3 rfl) (by assumption) rfl) rfl ?_ | refine G.v (rv_loadS 0 rfl rfl rfl rfl) rfl ?_ | refine G.v (rv_loadS 1 rfl rfl rfl rfl) rfl ?_ | refine G.v (rv_loadS 2 rfl rfl rfl rfl) rfl ?_ | refine G.v (rv_loadS 3 rfl rfl rfl rfl) rfl ?_ | refine G.v (rv_loadES rfl (by first | exact Rd.stays (by assumption) | exact Rd.owned 0 rfl | exact Rd.owned 1 rfl | exact Rd.owned 2 rfl | exact Rd.owned 3 rfl) (by assumption) rfl rfl) rfl ?_)
  refine G.op (og_callV rfl rfl (fun w _ => l12Known_any _ _ w)) rfl (fun _ _ => ?_)
  refine G.v (rv_move rfl) rfl ?_
  all_goals (((with_reducible refine G.gP rfl rfl (fun hg => ?_) (fun hg => ?_)) <;> (try exact Bool.noConfusion hg) <;> (first | (refine G.gY rfl rfl ?_; (first | refine G.v (rv_loadW 0 rfl rfl rfl) rfl ?_ | refine G.v (rv_loadW 1 rfl rfl rfl) rfl ?_ | refine G.v (rv_loadW 2 rfl rfl rfl) rfl ?_ | refine G.v (rv_loadW 3 rfl rfl rfl) rfl ?_ | refine G.v (rv_loadEW rfl (by first | exact Rd.stays (by assumption) | exact Rd.owned 0 rfl | exact Rd.owned 1 rfl | exact Rd.owned 2 rfl | exact Rd.owned 3 rfl) (by assumption) rfl) rfl ?_ | refine G.v (rv_loadS 0 rfl rfl rfl rfl) rfl ?_ | refine G.v (rv_loadS 1 rfl rfl rfl rfl) rfl ?_ | refine G.v (rv_loadS 2 rfl rfl rfl rfl) rfl ?_ | refine G.v (rv_loadS 3 rfl rfl rfl rfl) rfl ?_ | refine G.v (rv_loadES rfl (by first | exact Rd.stays (by assumption) | exact Rd.owned 0 rfl | exact Rd.owned 1 rfl | exact Rd.owned 2 rfl | exact Rd.owned 3 rfl) (by assumption) rfl rfl) rfl ?_)) | refine G.gN rfl rfl rfl ?_ | refine G.gU rfl rfl rfl ?_)))
  all_goals ((first | (refine G.gY rfl rfl ?_; (first | refine G.v (rv_loadW 0 rfl rfl rfl) rfl ?_ | refine G.v (rv_loadW 1 rfl rfl rfl) rfl ?_ | refine G.v (rv_loadW 2 rfl rfl rfl) rfl ?_ | refine G.v (rv_loadW 3 rfl rfl rfl) rfl ?_ | refine G.v (rv_loadEW rfl (by first | exact Rd.stays (by assumption) | exact Rd.owned 0 rfl | exact Rd.owned 1 rfl | exact Rd.owned 2 rfl | exact Rd.owned 3 rfl) (by assumption) rfl) rfl ?_ | refine G.v (rv_loadS 0 rfl rfl rfl rfl) rfl ?_ | refine G.v (rv_loadS 1 rfl rfl rfl rfl) rfl ?_ | refine G.v (rv_loadS 2 rfl rfl rfl rfl) rfl ?_ | refine G.v (rv_loadS 3 rfl rfl rfl rfl) rfl ?_ | refine G.v (rv_loadES rfl (by first | exact Rd.stays (by assumption) | exact Rd.owned 0 rfl | exact Rd.owned 1 rfl | exact Rd.owned 2 rfl | exact Rd.owned 3 rfl) (by assumption) rfl rfl) rfl ?_)) | refine G.gN rfl rfl rfl ?_ | refine G.gU rfl rfl rfl ?_))
  all_goals ((first | (refine G.gY rfl rfl ?_; refine G.op (og_callV rfl rfl (fun w _ => l12Known_any _ _ w)) rfl (fun _ _ => ?_)) | refine G.gN rfl rfl rfl ?_ | refine G.gU rfl rfl rfl ?_))
  all_goals ((first | refine G.v (rv_pickT rfl rfl) rfl ?_ | refine G.v (rv_pickF rfl rfl) rfl ?_))
  all_goals (refine G.v (rv_move rfl) rfl ?_)
  all_goals (((with_reducible refine G.gP rfl rfl (fun hg => ?_) (fun hg => ?_)) <;> (try exact Bool.noConfusion hg) <;> (first | (refine G.gY rfl rfl ?_; (first | refine G.v (rv_field rfl) rfl ?_ | refine G.v (rv_fieldE rfl) rfl ?_)) | refine G.gN rfl rfl rfl ?_ | refine G.gU rfl rfl rfl ?_)))
  all_goals ((first | (refine G.gY rfl rfl ?_; (first | refine G.v (rv_load1 0 rfl rfl rfl) rfl ?_ | refine G.v (rv_load1 1 rfl rfl rfl) rfl ?_ | refine G.v (rv_load1 2 rfl rfl rfl) rfl ?_ | refine G.v (rv_load1 3 rfl rfl rfl) rfl ?_ | refine G.v (rv_loadE rfl (by first | exact Rd.stays (by assumption) | exact Rd.owned 0 rfl | exact Rd.owned 1 rfl | exact Rd.owned 2 rfl | exact Rd.owned 3 rfl) (by assumption) rfl) rfl ?_)) | refine G.gN rfl rfl rfl ?_ | refine G.gU rfl rfl rfl ?_))
  all_goals ((first | (refine G.gY rfl rfl ?_; (first | refine G.v (rv_field rfl) rfl ?_ | refine G.v (rv_fieldE rfl) rfl ?_)) | refine G.gN rfl rfl rfl ?_ | refine G.gU rfl rfl rfl ?_))
  all_goals ((first | (refine G.gY rfl rfl ?_; (first | refine G.v (rv_load1 0 rfl rfl rfl) rfl ?_ | refine G.v (rv_load1 1 rfl rfl rfl) rfl ?_ | refine G.v (rv_load1 2 rfl rfl rfl) rfl ?_ | refine G.v (rv_load1 3 rfl rfl rfl) rfl ?_ | refine G.v (rv_loadE rfl (by first | exact Rd.stays (by assumption) | exact Rd.owned 0 rfl | exact Rd.owned 1 rfl | exact Rd.owned 2 rfl | exact Rd.owned 3 rfl) (by assumption) rfl) rfl ?_)) | refine G.gN rfl rfl rfl ?_ | refine G.gU rfl rfl rfl ?_))
  all_goals ((first | (refine G.gY rfl rfl ?_; refine G.v (rv_eql rfl rfl) rfl ?_) | refine G.gN rfl rfl rfl ?_ | refine G.gU rfl rfl rfl ?_))
  all_goals ((first | refine G.v (rv_pickT rfl rfl) rfl ?_ | refine G.v (rv_pickF rfl rfl) rfl ?_))
  all_goals (refine G.v (rv_move rfl) rfl ?_)
  all_goals (((with_reducible refine G.gP rfl rfl (fun hg => ?_) (fun hg => ?_)) <;> (try exact Bool.noConfusion hg) <;> (first | (refine G.gY rfl rfl ?_; (first | refine G.v (rv_field rfl) rfl ?_ | refine G.v (rv_fieldE rfl) rfl ?_)) | refine G.gN rfl rfl rfl ?_ | refine G.gU rfl rfl rfl ?_)))
  all_goals ((first | (refine G.gY rfl rfl ?_; (first | refine G.v (rv_load1 0 rfl rfl rfl) rfl ?_ | refine G.v (rv_load1 1 rfl rfl rfl) rfl ?_ | refine G.v (rv_load1 2 rfl rfl rfl) rfl ?_ | refine G.v (rv_load1 3 rfl rfl rfl) rfl ?_ | refine G.v (rv_loadE rfl (by first | exact Rd.stays (by assumption) | exact Rd.owned 0 rfl | exact Rd.owned 1 rfl | exact Rd.owned 2 rfl | exact Rd.owned 3 rfl) (by assumption) rfl) rfl ?_)) | refine G.gN rfl rfl rfl ?_ | refine G.gU rfl rfl rfl ?_))
  all_goals ((first | (refine G.gY rfl rfl ?_; (first | refine G.v (rv_field rfl) rfl ?_ | refine G.v (rv_fieldE rfl) rfl ?_)) | refine G.gN rfl rfl rfl ?_ | refine G.gU rfl rfl rfl ?_))
  all_goals ((first | (refine G.gY rfl rfl ?_; (first | refine G.v (rv_load1 0 rfl rfl rfl) rfl ?_ | refine G.v (rv_load1 1 rfl rfl rfl) rfl ?_ | refine G.v (rv_load1 2 rfl rfl rfl) rfl ?_ | refine G.v (rv_load1 3 rfl rfl rfl) rfl ?_ | refine G.v (rv_loadE rfl (by first | exact Rd.stays (by assumption) | exact Rd.owned 0 rfl | exact Rd.owned 1 rfl | exact Rd.owned 2 rfl | exact Rd.owned 3 rfl) (by assumption) rfl) rfl ?_)) | refine G.gN rfl rfl rfl ?_ | refine G.gU rfl rfl rfl ?_))
  all_goals ((first | (refine G.gY rfl rfl ?_; (first | refine G.v (rv_field rfl) rfl ?_ | refine G.v (rv_fieldE rfl) rfl ?_)) | refine G.gN rfl rfl rfl ?_ | refine G.gU rfl rfl rfl ?_))
  all_goals ((first | (refine G.gY rfl rfl ?_; (first | refine G.v (rv_load1 0 rfl rfl rfl) rfl ?_ | refine G.v (rv_load1 1 rfl rfl rfl) rfl ?_ | refine G.v (rv_load1 2 rfl rfl rfl) rfl ?_ | refine G.v (rv_load1 3 rfl rfl rfl) rfl ?_ | refine G.v (rv_loadE rfl (by first | exact Rd.stays (by assumption) | exact Rd.owned 0 rfl | exact Rd.owned 1 rfl | exact Rd.owned 2 rfl | exact Rd.owned 3 rfl) (by assumption) rfl) rfl ?_)) | refine G.gN rfl rfl rfl ?_ | refine G.gU rfl rfl rfl ?_))
  all_goals ((first | (refine G.gY rfl rfl ?_; (first | refine G.v (rv_field rfl) rfl ?_ | refine G.v (rv_fieldE rfl) rfl ?_)) | refine G.gN rfl rfl rfl ?_ | refine G.gU rfl rfl rfl ?_))
  all_goals ((first | (refine G.gY rfl rfl ?_; (first | refine G.v (rv_load1 0 rfl rfl rfl) rfl ?_ | refine G.v (rv_load1 1 rfl rfl rfl) rfl ?_ | refine G.v (rv_load1 2 rfl rfl rfl) rfl ?_ | refine G.v (rv_load1 3 rfl rfl rfl) rfl ?_ | refine G.v (rv_loadE rfl (by first | exact Rd.stays (by assumption) | exact Rd.owned 0 rfl | exact Rd.owned 1 rfl | exact Rd.owned 2 rfl | exact Rd.owned 3 rfl) (by assumption) rfl) rfl ?_)) | refine G.gN rfl rfl rfl ?_ | refine G.gU rfl rfl rfl ?_))
  all_goals ((first | (refine G.gY rfl rfl ?_; refine G.op (og_callV rfl rfl (fun w _ => l12Cross_any _ _ _ _ w)) rfl (fun _ _ => ?_)) | refine G.gN rfl rfl rfl ?_ | refine G.gU rfl rfl rfl ?_))
  all_goals ((first | refine G.v (rv_pickT rfl rfl) rfl ?_ | refine G.v (rv_pickF rfl rfl) rfl ?_))
  all_goals (refine G.v (rv_move rfl) rfl ?_)
  all_goals (((with_reducible refine G.gP rfl rfl (fun hg => ?_) (fun hg => ?_)) <;> (try exact Bool.noConfusion hg) <;> (first | (refine G.gY rfl rfl ?_; (first | refine G.v (rv_field rfl) rfl ?_ | refine G.v (rv_fieldE rfl) rfl ?_)) | refine G.gN rfl rfl rfl ?_ | refine G.gU rfl rfl rfl ?_)))
  all_goals ((first | (refine G.gY rfl rfl ?_; (first | refine G.v (rv_load1 0 rfl rfl rfl) rfl ?_ | refine G.v (rv_load1 1 rfl rfl rfl) rfl ?_ | refine G.v (rv_load1 2 rfl rfl rfl) rfl ?_ | refine G.v (rv_load1 3 rfl rfl rfl) rfl ?_ | refine G.v (rv_loadE rfl (by first | exact Rd.stays (by assumption) | exact Rd.owned 0 rfl | exact Rd.owned 1 rfl | exact Rd.owned 2 rfl | exact Rd.owned 3 rfl) (by assumption) rfl) rfl ?_)) | refine G.gN rfl rfl rfl ?_ | refine G.gU rfl rfl rfl ?_))
  all_goals ((first | (refine G.gY rfl rfl ?_; (first | refine G.v (rv_field rfl) rfl ?_ | refine G.v (rv_fieldE rfl) rfl ?_)) | refine G.gN rfl rfl rfl ?_ | refine G.gU rfl rfl rfl ?_))
  all_goals ((first | (refine G.gY rfl rfl ?_; (first | refine G.v (rv_load1 0 rfl rfl rfl) rfl ?_ | refine G.v (rv_load1 1 rfl rfl rfl) rfl ?_ | refine G.v (rv_load1 2 rfl rfl rfl) rfl ?_ | refine G.v (rv_load1 3 rfl rfl rfl) rfl ?_ | refine G.v (rv_loadE rfl (by first | exact Rd.stays (by assumption) | exact Rd.owned 0 rfl | exact Rd.owned 1 rfl | exact Rd.owned 2 rfl | exact Rd.owned 3 rfl) (by assumption) rfl) rfl ?_)) | refine G.gN rfl rfl rfl ?_ | refine G.gU rfl rfl rfl ?_))
  all_goals ((first | (refine G.gY rfl rfl ?_; (first | refine G.v (rv_field rfl) rfl ?_ | refine G.v (rv_fieldE rfl) rfl ?_)) | refine G.gN rfl rfl rfl ?_ | refine G.gU rfl rfl rfl ?_))
  all_goals ((first | (refine G.gY rfl rfl ?_; (first | refine G.v (rv_load1 0 rfl rfl rfl) rfl ?_ | refine G.v (rv_load1 1 rfl rfl rfl) rfl ?_ | refine G.v (rv_load1 2 rfl rfl rfl) rfl ?_ | refine G.v (rv_load1 3 rfl rfl rfl) rfl ?_ | refine G.v (rv_loadE rfl (by first | exact Rd.stays (by assumption) | exact Rd.owned 0 rfl | exact Rd.owned 1 rfl | exact Rd.owned 2 rfl | exact Rd.owned 3 rfl) (by assumption) rfl) rfl ?_)) | refine G.gN rfl rfl rfl ?_ | refine G.gU rfl rfl rfl ?_))
  all_goals ((first | (refine G.gY rfl rfl ?_; (first | refine G.v (rv_field rfl) rfl ?_ | refine G.v (rv_fieldE rfl) rfl ?_)) | refine G.gN rfl rfl rfl ?_ | refine G.gU rfl rfl rfl ?_))
  all_goals ((first | (refine G.gY rfl rfl ?_; (first | refine G.v (rv_load1 0 rfl rfl rfl) rfl ?_ | refine G.v (rv_load1 1 rfl rfl rfl) rfl ?_ | refine G.v (rv_load1 2 rfl rfl rfl) rfl ?_ | refine G.v (rv_load1 3 rfl rfl rfl) rfl ?_ | refine G.v (rv_loadE rfl (by first | exact Rd.stays (by assumption) | exact Rd.owned 0 rfl | exact Rd.owned 1 rfl | exact Rd.owned 2 rfl | exact Rd.owned 3 rfl) (by assumption) rfl) rfl ?_)) | refine G.gN rfl rfl rfl ?_ | refine G.gU rfl rfl rfl ?_))
  all_goals ((first | (refine G.gY rfl rfl ?_; refine G.op (og_callV rfl rfl (fun w _ => l12Cross_any _ _ _ _ w)) rfl (fun _ _ => ?_)) | refine G.gN rfl rfl rfl ?_ | refine G.gU rfl rfl rfl ?_))
  all_goals ((first | refine G.v (rv_pickT rfl rfl) rfl ?_ | refine G.v (rv_pickF rfl rfl) rfl ?_))
  all_goals (refine G.v (rv_move rfl) rfl ?_)
  all_goals (((with_reducible refine G.gP rfl rfl (fun hg => ?_) (fun hg => ?_)) <;> (try exact Bool.noConfusion hg) <;> (first | (refine G.gY rfl rfl ?_; (first | refine G.v (rv_field rfl) rfl ?_ | refine G.v (rv_fieldE rfl) rfl ?_)) | refine G.gN rfl rfl rfl ?_ | refine G.gU rfl rfl rfl ?_)))
  all_goals ((first | (refine G.gY rfl rfl ?_; (first | refine G.v (rv_load1 0 rfl rfl rfl) rfl ?_ | refine G.v (rv_load1 1 rfl rfl rfl) rfl ?_ | refine G.v (rv_load1 2 rfl rfl rfl) rfl ?_ | refine G.v (rv_load1 3 rfl rfl rfl) rfl ?_ | refine G.v (rv_loadE rfl (by first | exact Rd.stays (by assumption) | exact Rd.owned 0 rfl | exact Rd.owned 1 rfl | exact Rd.owned 2 rfl | exact Rd.owned 3 rfl) (by assumption) rfl) rfl ?_)) | refine G.gN rfl rfl rfl ?_ | refine G.gU rfl rfl rfl ?_))
  all_goals ((first | (refine G.gY rfl rfl ?_; (first | refine G.v (rv_field rfl) rfl ?_ | refine G.v (rv_fieldE rfl) rfl ?_)) | refine G.gN rfl rfl rfl ?_ | refine G.gU rfl rfl rfl ?_))
  all_goals ((first | (refine G.gY rfl rfl ?_; (first | refine G.v (rv_load1 0 rfl rfl rfl) rfl ?_ | refine G.v (rv_load1 1 rfl rfl rfl) rfl ?_ | refine G.v (rv_load1 2 rfl rfl rfl) rfl ?_ | refine G.v (rv_load1 3 rfl rfl rfl) rfl ?_ | refine G.v (rv_loadE rfl (by first | exact Rd.stays (by assumption) | exact Rd.owned 0 rfl | exact Rd.owned 1 rfl | exact Rd.owned 2 rfl | exact Rd.owned 3 rfl) (by assumption) rfl) rfl ?_)) | refine G.gN rfl rfl rfl ?_ | refine G.gU rfl rfl rfl ?_))
  all_goals ((first | (refine G.gY rfl rfl ?_; (first | refine G.v (rv_field rfl) rfl ?_ | refine G.v (rv_fieldE rfl) rfl ?_)) | refine G.gN rfl rfl rfl ?_ | refine G.gU rfl rfl rfl ?_))
  all_goals ((first | (refine G.gY rfl rfl ?_; (first | refine G.v (rv_load1 0 rfl rfl rfl) rfl ?_ | refine G.v (rv_load1 1 rfl rfl rfl) rfl ?_ | refine G.v (rv_load1 2 rfl rfl rfl) rfl ?_ | refine G.v (rv_load1 3 rfl rfl rfl) rfl ?_ | refine G.v (rv_loadE rfl (by first | exact Rd.stays (by assumption) | exact Rd.owned 0 rfl | exact Rd.owned 1 rfl | exact Rd.owned 2 rfl | exact Rd.owned 3 rfl) (by assumption) rfl) rfl ?_)) | refine G.gN rfl rfl rfl ?_ | refine G.gU rfl rfl rfl ?_))
  all_goals ((first | (refine G.gY rfl rfl ?_; (first | refine G.v (rv_field rfl) rfl ?_ | refine G.v (rv_fieldE rfl) rfl ?_)) | refine G.gN rfl rfl rfl ?_ | refine G.gU rfl rfl rfl ?_))
  all_goals ((first | (refine G.gY rfl rfl ?_; (first | refine G.v (rv_load1 0 rfl rfl rfl) rfl ?_ | refine G.v (rv_load1 1 rfl rfl rfl) rfl ?_ | refine G.v (rv_load1 2 rfl rfl rfl) rfl ?_ | refine G.v (rv_load1 3 rfl rfl rfl) rfl ?_ | refine G.v (rv_loadE rfl (by first | exact Rd.stays (by assumption) | exact Rd.owned 0 rfl | exact Rd.owned 1 rfl | exact Rd.owned 2 rfl | exact Rd.owned 3 rfl) (by assumption) rfl) rfl ?_)) | refine G.gN rfl rfl rfl ?_ | refine G.gU rfl rfl rfl ?_))
  all_goals ((first | (refine G.gY rfl rfl ?_; refine G.op (og_callV rfl rfl (fun w _ => l12Cross_any _ _ _ _ w)) rfl (fun _ _ => ?_)) | refine G.gN rfl rfl rfl ?_ | refine G.gU rfl rfl rfl ?_))
  all_goals ((first | refine G.v (rv_pickT rfl rfl) rfl ?_ | refine G.v (rv_pickF rfl rfl) rfl ?_))
  all_goals (refine G.v (rv_assign rfl) rfl ?_)
  all_goals
   refine G.done ?_
   refine G.thenN ?_
   refine G.ret ?_
   refine G.retFV rfl rfl ?_; simp_all [overlapM] <;> (intros; omega)
theorem within_any (p : PalletM) (b : BoxM) (s : SpotM) (w : World) : FnV Try.prog 20 [p.val, b.val, s.val] w (.bool (withinM p b s)) := by
  refine FnV.of (n := 69) Try.func20 rfl rfl ?_
  refine G.seq ?_
  refine G.region ?_
  refine G.op (og_box rfl rfl) rfl (fun b _ => ?_)
  refine G.op (og_box rfl rfl) rfl (fun b _ => ?_)
  refine G.op (og_box rfl rfl) rfl (fun b _ => ?_)
  refine G.v (rv_assign rfl) rfl ?_
  refine G.done ?_
  refine G.thenN ?_
  refine G.seq ?_
  refine G.seq ?_
  refine G.region ?_
  (first | refine G.v (rv_field rfl) rfl ?_ | refine G.v (rv_fieldE rfl) rfl ?_)
  (first | refine G.v (rv_load1 0 rfl rfl rfl) rfl ?_ | refine G.v (rv_load1 1 rfl rfl rfl) rfl ?_ | refine G.v (rv_load1 2 rfl rfl rfl) rfl ?_ | refine G.v (rv_loadE rfl (by first | exact Rd.stays (by assumption) | exact Rd.owned 0 rfl | exact Rd.owned 1 rfl | exact Rd.owned 2 rfl) (by assumption) rfl) rfl ?_)
  refine G.op (og_callV rfl rfl (fun w _ => isPlace_any _ w)) rfl (fun _ _ => ?_)
  refine G.v (rv_not rfl) rfl ?_
  refine G.v (rv_move rfl) rfl ?_
  all_goals (((with_reducible refine G.gP rfl rfl (fun hg => ?_) (fun hg => ?_)) <;> (try exact Bool.noConfusion hg) <;> (first | (refine G.gY rfl rfl ?_; (first | refine G.v (rv_field rfl) rfl ?_ | refine G.v (rv_fieldE rfl) rfl ?_)) | refine G.gN rfl rfl rfl ?_ | refine G.gU rfl rfl rfl ?_)))
  all_goals ((first | (refine G.gY rfl rfl ?_; (first | refine G.v (rv_load1 0 rfl rfl rfl) rfl ?_ | refine G.v (rv_load1 1 rfl rfl rfl) rfl ?_ | refine G.v (rv_load1 2 rfl rfl rfl) rfl ?_ | refine G.v (rv_loadE rfl (by first | exact Rd.stays (by assumption) | exact Rd.owned 0 rfl | exact Rd.owned 1 rfl | exact Rd.owned 2 rfl) (by assumption) rfl) rfl ?_)) | refine G.gN rfl rfl rfl ?_ | refine G.gU rfl rfl rfl ?_))
  all_goals ((first | (refine G.gY rfl rfl ?_; refine G.op (og_callV rfl rfl (fun w _ => isPlace_any _ w)) rfl (fun _ _ => ?_)) | refine G.gN rfl rfl rfl ?_ | refine G.gU rfl rfl rfl ?_))
  all_goals ((first | (refine G.gY rfl rfl ?_; refine G.v (rv_not rfl) rfl ?_) | refine G.gN rfl rfl rfl ?_ | refine G.gU rfl rfl rfl ?_))
  all_goals ((first | refine G.v (rv_pickT rfl rfl) rfl ?_ | refine G.v (rv_pickF rfl rfl) rfl ?_))
  all_goals (refine G.v (rv_move rfl) rfl ?_)
  all_goals (((with_reducible refine G.gP rfl rfl (fun hg => ?_) (fun hg => ?_)) <;> (try exact Bool.noConfusion hg) <;> (first | (refine G.gY rfl rfl ?_; (first | refine G.v (rv_field rfl) rfl ?_ | refine G.v (rv_fieldE rfl) rfl ?_)) | refine G.gN rfl rfl rfl ?_ | refine G.gU rfl rfl rfl ?_)))
  all_goals ((first | (refine G.gY rfl rfl ?_; (first | refine G.v (rv_load1 0 rfl rfl rfl) rfl ?_ | refine G.v (rv_load1 1 rfl rfl rfl) rfl ?_ | refine G.v (rv_load1 2 rfl rfl rfl) rfl ?_ | refine G.v (rv_loadE rfl (by first | exact Rd.stays (by assumption) | exact Rd.owned 0 rfl | exact Rd.owned 1 rfl | exact Rd.owned 2 rfl) (by assumption) rfl) rfl ?_)) | refine G.gN rfl rfl rfl ?_ | refine G.gU rfl rfl rfl ?_))
  all_goals ((first | (refine G.gY rfl rfl ?_; refine G.op (og_callV rfl rfl (fun w _ => isPlace_any _ w)) rfl (fun _ _ => ?_)) | refine G.gN rfl rfl rfl ?_ | refine G.gU rfl rfl rfl ?_))
  all_goals ((first | (refine G.gY rfl rfl ?_; refine G.v (rv_not rfl) rfl ?_) | refine G.gN rfl rfl rfl ?_ | refine G.gU rfl rfl rfl ?_))
  all_goals ((first | refine G.v (rv_pickT rfl rfl) rfl ?_ | refine G.v (rv_pickF rfl rfl) rfl ?_))
  all_goals (refine G.v (rv_move rfl) rfl ?_)
  all_goals (((with_reducible refine G.gP rfl rfl (fun hg => ?_) (fun hg => ?_)) <;> (try exact Bool.noConfusion hg) <;> (first | (refine G.gY rfl rfl ?_; (first | refine G.v (rv_field rfl) rfl ?_ | refine G.v (rv_fieldE rfl) rfl ?_)) | refine G.gN rfl rfl rfl ?_ | refine G.gU rfl rfl rfl ?_)))
  all_goals ((first | (refine G.gY rfl rfl ?_; (first | refine G.v (rv_load1 0 rfl rfl rfl) rfl ?_ | refine G.v (rv_load1 1 rfl rfl rfl) rfl ?_ | refine G.v (rv_load1 2 rfl rfl rfl) rfl ?_ | refine G.v (rv_loadE rfl (by first | exact Rd.stays (by assumption) | exact Rd.owned 0 rfl | exact Rd.owned 1 rfl | exact Rd.owned 2 rfl) (by assumption) rfl) rfl ?_)) | refine G.gN rfl rfl rfl ?_ | refine G.gU rfl rfl rfl ?_))
  all_goals ((first | (refine G.gY rfl rfl ?_; refine G.op (og_callV rfl rfl (fun w _ => isSide_any _ w)) rfl (fun _ _ => ?_)) | refine G.gN rfl rfl rfl ?_ | refine G.gU rfl rfl rfl ?_))
  all_goals ((first | (refine G.gY rfl rfl ?_; refine G.v (rv_not rfl) rfl ?_) | refine G.gN rfl rfl rfl ?_ | refine G.gU rfl rfl rfl ?_))
  all_goals ((first | refine G.v (rv_pickT rfl rfl) rfl ?_ | refine G.v (rv_pickF rfl rfl) rfl ?_))
  all_goals (refine G.v (rv_move rfl) rfl ?_)
  all_goals (((with_reducible refine G.gP rfl rfl (fun hg => ?_) (fun hg => ?_)) <;> (try exact Bool.noConfusion hg) <;> (first | (refine G.gY rfl rfl ?_; (first | refine G.v (rv_field rfl) rfl ?_ | refine G.v (rv_fieldE rfl) rfl ?_)) | refine G.gN rfl rfl rfl ?_ | refine G.gU rfl rfl rfl ?_)))
  all_goals ((first | (refine G.gY rfl rfl ?_; (first | refine G.v (rv_load1 0 rfl rfl rfl) rfl ?_ | refine G.v (rv_load1 1 rfl rfl rfl) rfl ?_ | refine G.v (rv_load1 2 rfl rfl rfl) rfl ?_ | refine G.v (rv_loadE rfl (by first | exact Rd.stays (by assumption) | exact Rd.owned 0 rfl | exact Rd.owned 1 rfl | exact Rd.owned 2 rfl) (by assumption) rfl) rfl ?_)) | refine G.gN rfl rfl rfl ?_ | refine G.gU rfl rfl rfl ?_))
  all_goals ((first | (refine G.gY rfl rfl ?_; refine G.op (og_callV rfl rfl (fun w _ => isSide_any _ w)) rfl (fun _ _ => ?_)) | refine G.gN rfl rfl rfl ?_ | refine G.gU rfl rfl rfl ?_))
  all_goals ((first | (refine G.gY rfl rfl ?_; refine G.v (rv_not rfl) rfl ?_) | refine G.gN rfl rfl rfl ?_ | refine G.gU rfl rfl rfl ?_))
  all_goals ((first | refine G.v (rv_pickT rfl rfl) rfl ?_ | refine G.v (rv_pickF rfl rfl) rfl ?_))
  all_goals (refine G.v (rv_move rfl) rfl ?_)
  all_goals (((with_reducible refine G.gP rfl rfl (fun hg => ?_) (fun hg => ?_)) <;> (try exact Bool.noConfusion hg) <;> (first | (refine G.gY rfl rfl ?_; (first | refine G.v (rv_field rfl) rfl ?_ | refine G.v (rv_fieldE rfl) rfl ?_)) | refine G.gN rfl rfl rfl ?_ | refine G.gU rfl rfl rfl ?_)))
  all_goals ((first | (refine G.gY rfl rfl ?_; (first | refine G.v (rv_load1 0 rfl rfl rfl) rfl ?_ | refine G.v (rv_load1 1 rfl rfl rfl) rfl ?_ | refine G.v (rv_load1 2 rfl rfl rfl) rfl ?_ | refine G.v (rv_loadE rfl (by first | exact Rd.stays (by assumption) | exact Rd.owned 0 rfl | exact Rd.owned 1 rfl | exact Rd.owned 2 rfl) (by assumption) rfl) rfl ?_)) | refine G.gN rfl rfl rfl ?_ | refine G.gU rfl rfl rfl ?_))
  all_goals ((first | (refine G.gY rfl rfl ?_; refine G.op (og_callV rfl rfl (fun w _ => isSide_any _ w)) rfl (fun _ _ => ?_)) | refine G.gN rfl rfl rfl ?_ | refine G.gU rfl rfl rfl ?_))
  all_goals ((first | (refine G.gY rfl rfl ?_; refine G.v (rv_not rfl) rfl ?_) | refine G.gN rfl rfl rfl ?_ | refine G.gU rfl rfl rfl ?_))
  all_goals ((first | refine G.v (rv_pickT rfl rfl) rfl ?_ | refine G.v (rv_pickF rfl rfl) rfl ?_))
  all_goals
   refine G.done ?_
   refine G.thenN ?_
   refine G.cond rfl (fun hc => ?_) (fun hc => ?_)
   · try exact Bool.noConfusion hc
     all_goals
      try replace hc := of_decide_eq_true hc
      try (exfalso; first | contradiction | omega)
      all_goals
       refine G.seq ?_
       refine G.region ?_
       refine G.v (rv_assign rfl) rfl ?_
       refine G.done ?_
       refine G.thenN ?_
       refine G.ret ?_
       refine G.thenR ?_
       refine G.retFV rfl rfl ?_; simp_all [withinM] <;> (intros; omega)
   · try exact Bool.noConfusion hc
     all_goals
      try replace hc := of_decide_eq_false hc
      try (exfalso; first | contradiction | omega)
      all_goals
       refine G.skip ?_
       refine G.thenN ?_
       refine G.seq ?_
       refine G.region ?_
       (first | refine G.v (rv_field rfl) rfl ?_ | refine G.v (rv_fieldE rfl) rfl ?_)
       (first | refine G.v (rv_load1 0 rfl rfl rfl) rfl ?_ | refine G.v (rv_load1 1 rfl rfl rfl) rfl ?_ | refine G.v (rv_load1 2 rfl rfl rfl) rfl ?_ | refine G.v (rv_loadE rfl (by first | exact Rd.stays (by assumption) | exact Rd.owned 0 rfl | exact Rd.owned 1 rfl | exact Rd.owned 2 rfl) (by assumption) rfl) rfl ?_)
       (first | refine G.v (rv_field rfl) rfl ?_ | refine G.v (rv_fieldE rfl) rfl ?_)
       (first | refine G.v (rv_load1 0 rfl rfl rfl) rfl ?_ | refine G.v (rv_load1 1 rfl rfl rfl) rfl ?_ | refine G.v (rv_load1 2 rfl rfl rfl) rfl ?_ | refine G.v (rv_loadE rfl (by first | exact Rd.stays (by assumption) | exact Rd.owned 0 rfl | exact Rd.owned 1 rfl | exact Rd.owned 2 rfl) (by assumption) rfl) rfl ?_)
       (first | refine G.v (rv_incr rfl rfl (by omega)) rfl ?_ | refine G.v (rv_addB rfl rfl (by omega) (by omega)) rfl ?_ | refine G.v (rv_add rfl rfl) rfl ?_)
       (first | refine G.v (rv_field rfl) rfl ?_ | refine G.v (rv_fieldE rfl) rfl ?_)
       (first | refine G.v (rv_load1 0 rfl rfl rfl) rfl ?_ | refine G.v (rv_load1 1 rfl rfl rfl) rfl ?_ | refine G.v (rv_load1 2 rfl rfl rfl) rfl ?_ | refine G.v (rv_loadE rfl (by first | exact Rd.stays (by assumption) | exact Rd.owned 0 rfl | exact Rd.owned 1 rfl | exact Rd.owned 2 rfl) (by assumption) rfl) rfl ?_)
       refine G.v (rv_leq rfl rfl) rfl ?_
       refine G.v (rv_move rfl) rfl ?_
       all_goals (((with_reducible refine G.gP rfl rfl (fun hg => ?_) (fun hg => ?_)) <;> (try exact Bool.noConfusion hg) <;> (first | (refine G.gY rfl rfl ?_; (first | refine G.v (rv_field rfl) rfl ?_ | refine G.v (rv_fieldE rfl) rfl ?_)) | refine G.gN rfl rfl rfl ?_ | refine G.gU rfl rfl rfl ?_)))
       all_goals ((first | (refine G.gY rfl rfl ?_; (first | refine G.v (rv_load1 0 rfl rfl rfl) rfl ?_ | refine G.v (rv_load1 1 rfl rfl rfl) rfl ?_ | refine G.v (rv_load1 2 rfl rfl rfl) rfl ?_ | refine G.v (rv_loadE rfl (by first | exact Rd.stays (by assumption) | exact Rd.owned 0 rfl | exact Rd.owned 1 rfl | exact Rd.owned 2 rfl) (by assumption) rfl) rfl ?_)) | refine G.gN rfl rfl rfl ?_ | refine G.gU rfl rfl rfl ?_))
       all_goals ((first | (refine G.gY rfl rfl ?_; (first | refine G.v (rv_field rfl) rfl ?_ | refine G.v (rv_fieldE rfl) rfl ?_)) | refine G.gN rfl rfl rfl ?_ | refine G.gU rfl rfl rfl ?_))
       all_goals ((first | (refine G.gY rfl rfl ?_; (first | refine G.v (rv_load1 0 rfl rfl rfl) rfl ?_ | refine G.v (rv_load1 1 rfl rfl rfl) rfl ?_ | refine G.v (rv_load1 2 rfl rfl rfl) rfl ?_ | refine G.v (rv_loadE rfl (by first | exact Rd.stays (by assumption) | exact Rd.owned 0 rfl | exact Rd.owned 1 rfl | exact Rd.owned 2 rfl) (by assumption) rfl) rfl ?_)) | refine G.gN rfl rfl rfl ?_ | refine G.gU rfl rfl rfl ?_))
       all_goals ((first | (refine G.gY rfl rfl ?_; (first | refine G.v (rv_incr rfl rfl (by omega)) rfl ?_ | refine G.v (rv_addB rfl rfl (by omega) (by omega)) rfl ?_ | refine G.v (rv_add rfl rfl) rfl ?_)) | refine G.gN rfl rfl rfl ?_ | refine G.gU rfl rfl rfl ?_))
       all_goals ((first | (refine G.gY rfl rfl ?_; (first | refine G.v (rv_field rfl) rfl ?_ | refine G.v (rv_fieldE rfl) rfl ?_)) | refine G.gN rfl rfl rfl ?_ | refine G.gU rfl rfl rfl ?_))
       all_goals ((first | (refine G.gY rfl rfl ?_; (first | refine G.v (rv_load1 0 rfl rfl rfl) rfl ?_ | refine G.v (rv_load1 1 rfl rfl rfl) rfl ?_ | refine G.v (rv_load1 2 rfl rfl rfl) rfl ?_ | refine G.v (rv_loadE rfl (by first | exact Rd.stays (by assumption) | exact Rd.owned 0 rfl | exact Rd.owned 1 rfl | exact Rd.owned 2 rfl) (by assumption) rfl) rfl ?_)) | refine G.gN rfl rfl rfl ?_ | refine G.gU rfl rfl rfl ?_))
       all_goals ((first | (refine G.gY rfl rfl ?_; refine G.v (rv_leq rfl rfl) rfl ?_) | refine G.gN rfl rfl rfl ?_ | refine G.gU rfl rfl rfl ?_))
       all_goals ((first | refine G.v (rv_pickT rfl rfl) rfl ?_ | refine G.v (rv_pickF rfl rfl) rfl ?_))
       all_goals (refine G.v (rv_move rfl) rfl ?_)
       all_goals (((with_reducible refine G.gP rfl rfl (fun hg => ?_) (fun hg => ?_)) <;> (try exact Bool.noConfusion hg) <;> (first | (refine G.gY rfl rfl ?_; (first | refine G.v (rv_field rfl) rfl ?_ | refine G.v (rv_fieldE rfl) rfl ?_)) | refine G.gN rfl rfl rfl ?_ | refine G.gU rfl rfl rfl ?_)))
       all_goals ((first | (refine G.gY rfl rfl ?_; (first | refine G.v (rv_load1 0 rfl rfl rfl) rfl ?_ | refine G.v (rv_load1 1 rfl rfl rfl) rfl ?_ | refine G.v (rv_load1 2 rfl rfl rfl) rfl ?_ | refine G.v (rv_loadE rfl (by first | exact Rd.stays (by assumption) | exact Rd.owned 0 rfl | exact Rd.owned 1 rfl | exact Rd.owned 2 rfl) (by assumption) rfl) rfl ?_)) | refine G.gN rfl rfl rfl ?_ | refine G.gU rfl rfl rfl ?_))
       all_goals ((first | (refine G.gY rfl rfl ?_; (first | refine G.v (rv_field rfl) rfl ?_ | refine G.v (rv_fieldE rfl) rfl ?_)) | refine G.gN rfl rfl rfl ?_ | refine G.gU rfl rfl rfl ?_))
       all_goals ((first | (refine G.gY rfl rfl ?_; (first | refine G.v (rv_load1 0 rfl rfl rfl) rfl ?_ | refine G.v (rv_load1 1 rfl rfl rfl) rfl ?_ | refine G.v (rv_load1 2 rfl rfl rfl) rfl ?_ | refine G.v (rv_loadE rfl (by first | exact Rd.stays (by assumption) | exact Rd.owned 0 rfl | exact Rd.owned 1 rfl | exact Rd.owned 2 rfl) (by assumption) rfl) rfl ?_)) | refine G.gN rfl rfl rfl ?_ | refine G.gU rfl rfl rfl ?_))
       all_goals ((first | (refine G.gY rfl rfl ?_; (first | refine G.v (rv_incr rfl rfl (by omega)) rfl ?_ | refine G.v (rv_addB rfl rfl (by omega) (by omega)) rfl ?_ | refine G.v (rv_add rfl rfl) rfl ?_)) | refine G.gN rfl rfl rfl ?_ | refine G.gU rfl rfl rfl ?_))
       all_goals ((first | (refine G.gY rfl rfl ?_; (first | refine G.v (rv_field rfl) rfl ?_ | refine G.v (rv_fieldE rfl) rfl ?_)) | refine G.gN rfl rfl rfl ?_ | refine G.gU rfl rfl rfl ?_))
       all_goals ((first | (refine G.gY rfl rfl ?_; (first | refine G.v (rv_load1 0 rfl rfl rfl) rfl ?_ | refine G.v (rv_load1 1 rfl rfl rfl) rfl ?_ | refine G.v (rv_load1 2 rfl rfl rfl) rfl ?_ | refine G.v (rv_loadE rfl (by first | exact Rd.stays (by assumption) | exact Rd.owned 0 rfl | exact Rd.owned 1 rfl | exact Rd.owned 2 rfl) (by assumption) rfl) rfl ?_)) | refine G.gN rfl rfl rfl ?_ | refine G.gU rfl rfl rfl ?_))
       all_goals ((first | (refine G.gY rfl rfl ?_; refine G.v (rv_leq rfl rfl) rfl ?_) | refine G.gN rfl rfl rfl ?_ | refine G.gU rfl rfl rfl ?_))
       all_goals ((first | refine G.v (rv_pickT rfl rfl) rfl ?_ | refine G.v (rv_pickF rfl rfl) rfl ?_))
       all_goals (refine G.v (rv_assign rfl) rfl ?_)
       all_goals
        refine G.done ?_
        refine G.thenN ?_
        refine G.ret ?_
        refine G.retFV rfl rfl ?_; simp_all [withinM] <;> (intros; omega)
theorem swithin_any (p : PalletM) (b : BoxM) (s : SpotM) (w : World) : FnV Try.prog 18 [p.val, b.val, s.val] w (.bool (withinM p b s)) := by
  refine FnV.of (n := 55) Try.func18 rfl rfl ?_
  refine G.seq ?_
  refine G.region ?_
  refine G.op (og_box rfl rfl) rfl (fun b _ => ?_)
  refine G.op (og_box rfl rfl) rfl (fun b _ => ?_)
  refine G.op (og_box rfl rfl) rfl (fun b _ => ?_)
  refine G.v (rv_assign rfl) rfl ?_
  refine G.done ?_
  refine G.thenN ?_
  refine G.seq ?_
  refine G.region ?_
  (first | refine G.v (rv_loadW 0 rfl rfl rfl) rfl ?_ | refine G.v (rv_loadW 1 rfl rfl rfl) rfl ?_ | refine G.v (rv_loadW 2 rfl rfl rfl) rfl ?_ | refine G.v (rv_loadEW rfl (by first | exact Rd.stays (by assumption) | exact Rd.owned 0 rfl | exact Rd.owned 1 rfl | exact Rd.owned 2 rfl) (by assumption) rfl) rfl ?_ | refine G.v (rv_loadS 0 rfl rfl rfl rfl) rfl ?_ | refine G.v (rv_loadS 1 rfl rfl rfl rfl) rfl ?_ | refine G.v (rv_loadS 2 rfl rfl rfl rfl) rfl ?_ | refine G.v (rv_loadES rfl (by first | exact Rd.stays (by assumption) | exact Rd.owned 0 rfl | exact Rd.owned 1 rfl | exact Rd.owned 2 rfl) (by assumption) rfl rfl) rfl ?_)
  (first | refine G.v (rv_loadW 0 rfl rfl rfl) rfl ?_ | refine G.v (rv_loadW 1 rfl rfl rfl) rfl ?_ | refine G.v (rv_loadW 2 rfl rfl rfl) rfl ?_ | refine G.v (rv_loadEW rfl (by first | exact Rd.stays (by assumption) | exact Rd.owned 0 rfl | exact Rd.owned 1 rfl | exact Rd.owned 2 rfl) (by assumption) rfl) rfl ?_ | refine G.v (rv_loadS 0 rfl rfl rfl rfl) rfl ?_ | refine G.v (rv_loadS 1 rfl rfl rfl rfl) rfl ?_ | refine G.v (rv_loadS 2 rfl rfl rfl rfl) rfl ?_ | refine G.v (rv_loadES rfl (by first | exact Rd.stays (by assumption) | exact Rd.owned 0 rfl | exact Rd.owned 1 rfl | exact Rd.owned 2 rfl) (by assumption) rfl rfl) rfl ?_)
  refine G.op (og_callV rfl rfl (fun w _ => l12Known_any _ _ w)) rfl (fun _ _ => ?_)
  refine G.v (rv_move rfl) rfl ?_
  all_goals (((with_reducible refine G.gP rfl rfl (fun hg => ?_) (fun hg => ?_)) <;> (try exact Bool.noConfusion hg) <;> (first | (refine G.gY rfl rfl ?_; (first | refine G.v (rv_field rfl) rfl ?_ | refine G.v (rv_fieldE rfl) rfl ?_)) | refine G.gN rfl rfl rfl ?_ | refine G.gU rfl rfl rfl ?_)))
  all_goals ((first | (refine G.gY rfl rfl ?_; (first | refine G.v (rv_load1 0 rfl rfl rfl) rfl ?_ | refine G.v (rv_load1 1 rfl rfl rfl) rfl ?_ | refine G.v (rv_load1 2 rfl rfl rfl) rfl ?_ | refine G.v (rv_loadE rfl (by first | exact Rd.stays (by assumption) | exact Rd.owned 0 rfl | exact Rd.owned 1 rfl | exact Rd.owned 2 rfl) (by assumption) rfl) rfl ?_)) | refine G.gN rfl rfl rfl ?_ | refine G.gU rfl rfl rfl ?_))
  all_goals ((first | (refine G.gY rfl rfl ?_; refine G.v (rv_gtr rfl rfl) rfl ?_) | refine G.gN rfl rfl rfl ?_ | refine G.gU rfl rfl rfl ?_))
  all_goals ((first | refine G.v (rv_pickT rfl rfl) rfl ?_ | refine G.v (rv_pickF rfl rfl) rfl ?_))
  all_goals (refine G.v (rv_move rfl) rfl ?_)
  all_goals (((with_reducible refine G.gP rfl rfl (fun hg => ?_) (fun hg => ?_)) <;> (try exact Bool.noConfusion hg) <;> (first | (refine G.gY rfl rfl ?_; (first | refine G.v (rv_field rfl) rfl ?_ | refine G.v (rv_fieldE rfl) rfl ?_)) | refine G.gN rfl rfl rfl ?_ | refine G.gU rfl rfl rfl ?_)))
  all_goals ((first | (refine G.gY rfl rfl ?_; (first | refine G.v (rv_load1 0 rfl rfl rfl) rfl ?_ | refine G.v (rv_load1 1 rfl rfl rfl) rfl ?_ | refine G.v (rv_load1 2 rfl rfl rfl) rfl ?_ | refine G.v (rv_loadE rfl (by first | exact Rd.stays (by assumption) | exact Rd.owned 0 rfl | exact Rd.owned 1 rfl | exact Rd.owned 2 rfl) (by assumption) rfl) rfl ?_)) | refine G.gN rfl rfl rfl ?_ | refine G.gU rfl rfl rfl ?_))
  all_goals ((first | (refine G.gY rfl rfl ?_; refine G.v (rv_gtr rfl rfl) rfl ?_) | refine G.gN rfl rfl rfl ?_ | refine G.gU rfl rfl rfl ?_))
  all_goals ((first | refine G.v (rv_pickT rfl rfl) rfl ?_ | refine G.v (rv_pickF rfl rfl) rfl ?_))
  all_goals (refine G.v (rv_move rfl) rfl ?_)
  all_goals (((with_reducible refine G.gP rfl rfl (fun hg => ?_) (fun hg => ?_)) <;> (try exact Bool.noConfusion hg) <;> (first | (refine G.gY rfl rfl ?_; (first | refine G.v (rv_field rfl) rfl ?_ | refine G.v (rv_fieldE rfl) rfl ?_)) | refine G.gN rfl rfl rfl ?_ | refine G.gU rfl rfl rfl ?_)))
  all_goals ((first | (refine G.gY rfl rfl ?_; (first | refine G.v (rv_load1 0 rfl rfl rfl) rfl ?_ | refine G.v (rv_load1 1 rfl rfl rfl) rfl ?_ | refine G.v (rv_load1 2 rfl rfl rfl) rfl ?_ | refine G.v (rv_loadE rfl (by first | exact Rd.stays (by assumption) | exact Rd.owned 0 rfl | exact Rd.owned 1 rfl | exact Rd.owned 2 rfl) (by assumption) rfl) rfl ?_)) | refine G.gN rfl rfl rfl ?_ | refine G.gU rfl rfl rfl ?_))
  all_goals ((first | (refine G.gY rfl rfl ?_; refine G.v (rv_gtr rfl rfl) rfl ?_) | refine G.gN rfl rfl rfl ?_ | refine G.gU rfl rfl rfl ?_))
  all_goals ((first | refine G.v (rv_pickT rfl rfl) rfl ?_ | refine G.v (rv_pickF rfl rfl) rfl ?_))
  all_goals (refine G.v (rv_move rfl) rfl ?_)
  all_goals (((with_reducible refine G.gP rfl rfl (fun hg => ?_) (fun hg => ?_)) <;> (try exact Bool.noConfusion hg) <;> (first | (refine G.gY rfl rfl ?_; (first | refine G.v (rv_field rfl) rfl ?_ | refine G.v (rv_fieldE rfl) rfl ?_)) | refine G.gN rfl rfl rfl ?_ | refine G.gU rfl rfl rfl ?_)))
  all_goals ((first | (refine G.gY rfl rfl ?_; (first | refine G.v (rv_load1 0 rfl rfl rfl) rfl ?_ | refine G.v (rv_load1 1 rfl rfl rfl) rfl ?_ | refine G.v (rv_load1 2 rfl rfl rfl) rfl ?_ | refine G.v (rv_loadE rfl (by first | exact Rd.stays (by assumption) | exact Rd.owned 0 rfl | exact Rd.owned 1 rfl | exact Rd.owned 2 rfl) (by assumption) rfl) rfl ?_)) | refine G.gN rfl rfl rfl ?_ | refine G.gU rfl rfl rfl ?_))
  all_goals ((first | (refine G.gY rfl rfl ?_; (first | refine G.v (rv_field rfl) rfl ?_ | refine G.v (rv_fieldE rfl) rfl ?_)) | refine G.gN rfl rfl rfl ?_ | refine G.gU rfl rfl rfl ?_))
  all_goals ((first | (refine G.gY rfl rfl ?_; (first | refine G.v (rv_load1 0 rfl rfl rfl) rfl ?_ | refine G.v (rv_load1 1 rfl rfl rfl) rfl ?_ | refine G.v (rv_load1 2 rfl rfl rfl) rfl ?_ | refine G.v (rv_loadE rfl (by first | exact Rd.stays (by assumption) | exact Rd.owned 0 rfl | exact Rd.owned 1 rfl | exact Rd.owned 2 rfl) (by assumption) rfl) rfl ?_)) | refine G.gN rfl rfl rfl ?_ | refine G.gU rfl rfl rfl ?_))
  all_goals ((first | (refine G.gY rfl rfl ?_; (first | refine G.v (rv_incr rfl rfl (by omega)) rfl ?_ | refine G.v (rv_addB rfl rfl (by omega) (by omega)) rfl ?_ | refine G.v (rv_add rfl rfl) rfl ?_)) | refine G.gN rfl rfl rfl ?_ | refine G.gU rfl rfl rfl ?_))
  all_goals ((first | (refine G.gY rfl rfl ?_; (first | refine G.v (rv_field rfl) rfl ?_ | refine G.v (rv_fieldE rfl) rfl ?_)) | refine G.gN rfl rfl rfl ?_ | refine G.gU rfl rfl rfl ?_))
  all_goals ((first | (refine G.gY rfl rfl ?_; (first | refine G.v (rv_load1 0 rfl rfl rfl) rfl ?_ | refine G.v (rv_load1 1 rfl rfl rfl) rfl ?_ | refine G.v (rv_load1 2 rfl rfl rfl) rfl ?_ | refine G.v (rv_loadE rfl (by first | exact Rd.stays (by assumption) | exact Rd.owned 0 rfl | exact Rd.owned 1 rfl | exact Rd.owned 2 rfl) (by assumption) rfl) rfl ?_)) | refine G.gN rfl rfl rfl ?_ | refine G.gU rfl rfl rfl ?_))
  all_goals ((first | (refine G.gY rfl rfl ?_; refine G.v (rv_leq rfl rfl) rfl ?_) | refine G.gN rfl rfl rfl ?_ | refine G.gU rfl rfl rfl ?_))
  all_goals ((first | refine G.v (rv_pickT rfl rfl) rfl ?_ | refine G.v (rv_pickF rfl rfl) rfl ?_))
  all_goals (refine G.v (rv_move rfl) rfl ?_)
  all_goals (((with_reducible refine G.gP rfl rfl (fun hg => ?_) (fun hg => ?_)) <;> (try exact Bool.noConfusion hg) <;> (first | (refine G.gY rfl rfl ?_; (first | refine G.v (rv_field rfl) rfl ?_ | refine G.v (rv_fieldE rfl) rfl ?_)) | refine G.gN rfl rfl rfl ?_ | refine G.gU rfl rfl rfl ?_)))
  all_goals ((first | (refine G.gY rfl rfl ?_; (first | refine G.v (rv_load1 0 rfl rfl rfl) rfl ?_ | refine G.v (rv_load1 1 rfl rfl rfl) rfl ?_ | refine G.v (rv_load1 2 rfl rfl rfl) rfl ?_ | refine G.v (rv_loadE rfl (by first | exact Rd.stays (by assumption) | exact Rd.owned 0 rfl | exact Rd.owned 1 rfl | exact Rd.owned 2 rfl) (by assumption) rfl) rfl ?_)) | refine G.gN rfl rfl rfl ?_ | refine G.gU rfl rfl rfl ?_))
  all_goals ((first | (refine G.gY rfl rfl ?_; (first | refine G.v (rv_field rfl) rfl ?_ | refine G.v (rv_fieldE rfl) rfl ?_)) | refine G.gN rfl rfl rfl ?_ | refine G.gU rfl rfl rfl ?_))
  all_goals ((first | (refine G.gY rfl rfl ?_; (first | refine G.v (rv_load1 0 rfl rfl rfl) rfl ?_ | refine G.v (rv_load1 1 rfl rfl rfl) rfl ?_ | refine G.v (rv_load1 2 rfl rfl rfl) rfl ?_ | refine G.v (rv_loadE rfl (by first | exact Rd.stays (by assumption) | exact Rd.owned 0 rfl | exact Rd.owned 1 rfl | exact Rd.owned 2 rfl) (by assumption) rfl) rfl ?_)) | refine G.gN rfl rfl rfl ?_ | refine G.gU rfl rfl rfl ?_))
  all_goals ((first | (refine G.gY rfl rfl ?_; (first | refine G.v (rv_incr rfl rfl (by omega)) rfl ?_ | refine G.v (rv_addB rfl rfl (by omega) (by omega)) rfl ?_ | refine G.v (rv_add rfl rfl) rfl ?_)) | refine G.gN rfl rfl rfl ?_ | refine G.gU rfl rfl rfl ?_))
  all_goals ((first | (refine G.gY rfl rfl ?_; (first | refine G.v (rv_field rfl) rfl ?_ | refine G.v (rv_fieldE rfl) rfl ?_)) | refine G.gN rfl rfl rfl ?_ | refine G.gU rfl rfl rfl ?_))
  all_goals ((first | (refine G.gY rfl rfl ?_; (first | refine G.v (rv_load1 0 rfl rfl rfl) rfl ?_ | refine G.v (rv_load1 1 rfl rfl rfl) rfl ?_ | refine G.v (rv_load1 2 rfl rfl rfl) rfl ?_ | refine G.v (rv_loadE rfl (by first | exact Rd.stays (by assumption) | exact Rd.owned 0 rfl | exact Rd.owned 1 rfl | exact Rd.owned 2 rfl) (by assumption) rfl) rfl ?_)) | refine G.gN rfl rfl rfl ?_ | refine G.gU rfl rfl rfl ?_))
  all_goals ((first | (refine G.gY rfl rfl ?_; refine G.v (rv_leq rfl rfl) rfl ?_) | refine G.gN rfl rfl rfl ?_ | refine G.gU rfl rfl rfl ?_))
  all_goals ((first | refine G.v (rv_pickT rfl rfl) rfl ?_ | refine G.v (rv_pickF rfl rfl) rfl ?_))
  all_goals (refine G.v (rv_move rfl) rfl ?_)
  all_goals (((with_reducible refine G.gP rfl rfl (fun hg => ?_) (fun hg => ?_)) <;> (try exact Bool.noConfusion hg) <;> (first | (refine G.gY rfl rfl ?_; (first | refine G.v (rv_field rfl) rfl ?_ | refine G.v (rv_fieldE rfl) rfl ?_)) | refine G.gN rfl rfl rfl ?_ | refine G.gU rfl rfl rfl ?_)))
  all_goals ((first | (refine G.gY rfl rfl ?_; (first | refine G.v (rv_load1 0 rfl rfl rfl) rfl ?_ | refine G.v (rv_load1 1 rfl rfl rfl) rfl ?_ | refine G.v (rv_load1 2 rfl rfl rfl) rfl ?_ | refine G.v (rv_loadE rfl (by first | exact Rd.stays (by assumption) | exact Rd.owned 0 rfl | exact Rd.owned 1 rfl | exact Rd.owned 2 rfl) (by assumption) rfl) rfl ?_)) | refine G.gN rfl rfl rfl ?_ | refine G.gU rfl rfl rfl ?_))
  all_goals ((first | (refine G.gY rfl rfl ?_; (first | refine G.v (rv_field rfl) rfl ?_ | refine G.v (rv_fieldE rfl) rfl ?_)) | refine G.gN rfl rfl rfl ?_ | refine G.gU rfl rfl rfl ?_))
  all_goals ((first | (refine G.gY rfl rfl ?_; (first | refine G.v (rv_load1 0 rfl rfl rfl) rfl ?_ | refine G.v (rv_load1 1 rfl rfl rfl) rfl ?_ | refine G.v (rv_load1 2 rfl rfl rfl) rfl ?_ | refine G.v (rv_loadE rfl (by first | exact Rd.stays (by assumption) | exact Rd.owned 0 rfl | exact Rd.owned 1 rfl | exact Rd.owned 2 rfl) (by assumption) rfl) rfl ?_)) | refine G.gN rfl rfl rfl ?_ | refine G.gU rfl rfl rfl ?_))
  all_goals ((first | (refine G.gY rfl rfl ?_; (first | refine G.v (rv_incr rfl rfl (by omega)) rfl ?_ | refine G.v (rv_addB rfl rfl (by omega) (by omega)) rfl ?_ | refine G.v (rv_add rfl rfl) rfl ?_)) | refine G.gN rfl rfl rfl ?_ | refine G.gU rfl rfl rfl ?_))
  all_goals ((first | (refine G.gY rfl rfl ?_; (first | refine G.v (rv_field rfl) rfl ?_ | refine G.v (rv_fieldE rfl) rfl ?_)) | refine G.gN rfl rfl rfl ?_ | refine G.gU rfl rfl rfl ?_))
  all_goals ((first | (refine G.gY rfl rfl ?_; (first | refine G.v (rv_load1 0 rfl rfl rfl) rfl ?_ | refine G.v (rv_load1 1 rfl rfl rfl) rfl ?_ | refine G.v (rv_load1 2 rfl rfl rfl) rfl ?_ | refine G.v (rv_loadE rfl (by first | exact Rd.stays (by assumption) | exact Rd.owned 0 rfl | exact Rd.owned 1 rfl | exact Rd.owned 2 rfl) (by assumption) rfl) rfl ?_)) | refine G.gN rfl rfl rfl ?_ | refine G.gU rfl rfl rfl ?_))
  all_goals ((first | (refine G.gY rfl rfl ?_; refine G.v (rv_leq rfl rfl) rfl ?_) | refine G.gN rfl rfl rfl ?_ | refine G.gU rfl rfl rfl ?_))
  all_goals ((first | refine G.v (rv_pickT rfl rfl) rfl ?_ | refine G.v (rv_pickF rfl rfl) rfl ?_))
  all_goals (refine G.v (rv_assign rfl) rfl ?_)
  all_goals
   refine G.done ?_
   refine G.thenN ?_
   refine G.ret ?_
   refine G.retFV rfl rfl ?_; rw [withinM_eq]; simp_all <;> (intros; omega)
theorem toBox_any (b : BoxM) (w : World) : FnV Try.prog 15 [b.val] w b.val := by
  refine FnV.of (n := 17) Try.func15 rfl rfl ?_
  refine G.seq ?_
  refine G.region ?_
  refine G.op (og_box rfl rfl) rfl (fun b _ => ?_)
  refine G.op (og_alloc) rfl (fun b _ => ?_)
  refine G.done ?_
  refine G.thenN ?_
  refine G.seq ?_
  refine G.region ?_
  refine G.op (og_alloc) rfl (fun b _ => ?_)
  refine G.done ?_
  refine G.thenN ?_
  refine G.seq ?_
  refine G.region ?_
  (first | refine G.v (rv_field rfl) rfl ?_ | refine G.v (rv_fieldE rfl) rfl ?_)
  (first | refine G.v (rv_load1 0 rfl rfl rfl) rfl ?_ | refine G.v (rv_load1 1 rfl rfl rfl) rfl ?_ | refine G.v (rv_load1 2 rfl rfl rfl) rfl ?_ | refine G.v (rv_loadE rfl (by first | exact Rd.stays (by assumption) | exact Rd.owned 0 rfl | exact Rd.owned 1 rfl | exact Rd.owned 2 rfl) (by assumption) rfl) rfl ?_)
  (first | refine G.v (rv_field rfl) rfl ?_ | refine G.v (rv_fieldE rfl) rfl ?_)
  (first | refine G.op0 (og_store 0 rfl rfl rfl rfl rfl rfl rfl rfl) (fun _ _ => ?_) | refine G.op0 (og_store 1 rfl rfl rfl rfl rfl rfl rfl rfl) (fun _ _ => ?_) | refine G.op0 (og_store 2 rfl rfl rfl rfl rfl rfl rfl rfl) (fun _ _ => ?_) | refine G.op0 (og_storeE 0 rfl rfl rfl (by assumption) rfl rfl rfl rfl rfl) (fun _ _ => ?_) | refine G.op0 (og_storeE 1 rfl rfl rfl (by assumption) rfl rfl rfl rfl rfl) (fun _ _ => ?_) | refine G.op0 (og_storeE 2 rfl rfl rfl (by assumption) rfl rfl rfl rfl rfl) (fun _ _ => ?_))
  refine G.done ?_
  refine G.thenN ?_
  refine G.seq ?_
  refine G.region ?_
  (first | refine G.v (rv_field rfl) rfl ?_ | refine G.v (rv_fieldE rfl) rfl ?_)
  (first | refine G.v (rv_load1 0 rfl rfl rfl) rfl ?_ | refine G.v (rv_load1 1 rfl rfl rfl) rfl ?_ | refine G.v (rv_load1 2 rfl rfl rfl) rfl ?_ | refine G.v (rv_loadE rfl (by first | exact Rd.stays (by assumption) | exact Rd.owned 0 rfl | exact Rd.owned 1 rfl | exact Rd.owned 2 rfl) (by assumption) rfl) rfl ?_)
  (first | refine G.v (rv_field rfl) rfl ?_ | refine G.v (rv_fieldE rfl) rfl ?_)
  (first | refine G.op0 (og_store 0 rfl rfl rfl rfl rfl rfl rfl rfl) (fun _ _ => ?_) | refine G.op0 (og_store 1 rfl rfl rfl rfl rfl rfl rfl rfl) (fun _ _ => ?_) | refine G.op0 (og_store 2 rfl rfl rfl rfl rfl rfl rfl rfl) (fun _ _ => ?_) | refine G.op0 (og_storeE 0 rfl rfl rfl (by assumption) rfl rfl rfl rfl rfl) (fun _ _ => ?_) | refine G.op0 (og_storeE 1 rfl rfl rfl (by assumption) rfl rfl rfl rfl rfl) (fun _ _ => ?_) | refine G.op0 (og_storeE 2 rfl rfl rfl (by assumption) rfl rfl rfl rfl rfl) (fun _ _ => ?_))
  refine G.done ?_
  refine G.thenN ?_
  refine G.seq ?_
  refine G.region ?_
  (first | refine G.v (rv_field rfl) rfl ?_ | refine G.v (rv_fieldE rfl) rfl ?_)
  (first | refine G.v (rv_load1 0 rfl rfl rfl) rfl ?_ | refine G.v (rv_load1 1 rfl rfl rfl) rfl ?_ | refine G.v (rv_load1 2 rfl rfl rfl) rfl ?_ | refine G.v (rv_loadE rfl (by first | exact Rd.stays (by assumption) | exact Rd.owned 0 rfl | exact Rd.owned 1 rfl | exact Rd.owned 2 rfl) (by assumption) rfl) rfl ?_)
  (first | refine G.v (rv_field rfl) rfl ?_ | refine G.v (rv_fieldE rfl) rfl ?_)
  (first | refine G.op0 (og_store 0 rfl rfl rfl rfl rfl rfl rfl rfl) (fun _ _ => ?_) | refine G.op0 (og_store 1 rfl rfl rfl rfl rfl rfl rfl rfl) (fun _ _ => ?_) | refine G.op0 (og_store 2 rfl rfl rfl rfl rfl rfl rfl rfl) (fun _ _ => ?_) | refine G.op0 (og_storeE 0 rfl rfl rfl (by assumption) rfl rfl rfl rfl rfl) (fun _ _ => ?_) | refine G.op0 (og_storeE 1 rfl rfl rfl (by assumption) rfl rfl rfl rfl rfl) (fun _ _ => ?_) | refine G.op0 (og_storeE 2 rfl rfl rfl (by assumption) rfl rfl rfl rfl rfl) (fun _ _ => ?_))
  refine G.done ?_
  refine G.thenN ?_
  refine G.seq ?_
  refine G.region ?_
  (first | refine G.v (rv_field rfl) rfl ?_ | refine G.v (rv_fieldE rfl) rfl ?_)
  (first | refine G.v (rv_load1 0 rfl rfl rfl) rfl ?_ | refine G.v (rv_load1 1 rfl rfl rfl) rfl ?_ | refine G.v (rv_load1 2 rfl rfl rfl) rfl ?_ | refine G.v (rv_loadE rfl (by first | exact Rd.stays (by assumption) | exact Rd.owned 0 rfl | exact Rd.owned 1 rfl | exact Rd.owned 2 rfl) (by assumption) rfl) rfl ?_)
  (first | refine G.v (rv_field rfl) rfl ?_ | refine G.v (rv_fieldE rfl) rfl ?_)
  (first | refine G.op0 (og_store 0 rfl rfl rfl rfl rfl rfl rfl rfl) (fun _ _ => ?_) | refine G.op0 (og_store 1 rfl rfl rfl rfl rfl rfl rfl rfl) (fun _ _ => ?_) | refine G.op0 (og_store 2 rfl rfl rfl rfl rfl rfl rfl rfl) (fun _ _ => ?_) | refine G.op0 (og_storeE 0 rfl rfl rfl (by assumption) rfl rfl rfl rfl rfl) (fun _ _ => ?_) | refine G.op0 (og_storeE 1 rfl rfl rfl (by assumption) rfl rfl rfl rfl rfl) (fun _ _ => ?_) | refine G.op0 (og_storeE 2 rfl rfl rfl (by assumption) rfl rfl rfl rfl rfl) (fun _ _ => ?_))
  refine G.done ?_
  refine G.thenN ?_
  refine G.seq ?_
  refine G.region ?_
  (first | refine G.v (rv_loadW 0 rfl rfl rfl) rfl ?_ | refine G.v (rv_loadW 1 rfl rfl rfl) rfl ?_ | refine G.v (rv_loadW 2 rfl rfl rfl) rfl ?_ | refine G.v (rv_loadEW rfl (by first | exact Rd.stays (by assumption) | exact Rd.owned 0 rfl | exact Rd.owned 1 rfl | exact Rd.owned 2 rfl) (by assumption) rfl) rfl ?_ | refine G.v (rv_loadS 0 rfl rfl rfl rfl) rfl ?_ | refine G.v (rv_loadS 1 rfl rfl rfl rfl) rfl ?_ | refine G.v (rv_loadS 2 rfl rfl rfl rfl) rfl ?_ | refine G.v (rv_loadES rfl (by first | exact Rd.stays (by assumption) | exact Rd.owned 0 rfl | exact Rd.owned 1 rfl | exact Rd.owned 2 rfl) (by assumption) rfl rfl) rfl ?_)
  (first | refine G.op0 (og_store 0 rfl rfl rfl rfl rfl rfl rfl rfl) (fun _ _ => ?_) | refine G.op0 (og_store 1 rfl rfl rfl rfl rfl rfl rfl rfl) (fun _ _ => ?_) | refine G.op0 (og_store 2 rfl rfl rfl rfl rfl rfl rfl rfl) (fun _ _ => ?_) | refine G.op0 (og_storeE 0 rfl rfl rfl (by assumption) rfl rfl rfl rfl rfl) (fun _ _ => ?_) | refine G.op0 (og_storeE 1 rfl rfl rfl (by assumption) rfl rfl rfl rfl rfl) (fun _ _ => ?_) | refine G.op0 (og_storeE 2 rfl rfl rfl (by assumption) rfl rfl rfl rfl rfl) (fun _ _ => ?_))
  refine G.done ?_
  refine G.thenN ?_
  refine G.ret ?_
  first | exact G.retFVc 0 rfl rfl rfl rfl rfl | exact G.retFVc 1 rfl rfl rfl rfl rfl | exact G.retFVc 2 rfl rfl rfl rfl rfl
theorem toSpot_any (b : SpotM) (w : World) : FnV Try.prog 16 [b.val] w b.val := by
  refine FnV.of (n := 17) Try.func16 rfl rfl ?_
  refine G.seq ?_
  refine G.region ?_
  refine G.op (og_box rfl rfl) rfl (fun b _ => ?_)
  refine G.op (og_alloc) rfl (fun b _ => ?_)
  refine G.done ?_
  refine G.thenN ?_
  refine G.seq ?_
  refine G.region ?_
  refine G.op (og_alloc) rfl (fun b _ => ?_)
  refine G.done ?_
  refine G.thenN ?_
  refine G.seq ?_
  refine G.region ?_
  (first | refine G.v (rv_field rfl) rfl ?_ | refine G.v (rv_fieldE rfl) rfl ?_)
  (first | refine G.v (rv_load1 0 rfl rfl rfl) rfl ?_ | refine G.v (rv_load1 1 rfl rfl rfl) rfl ?_ | refine G.v (rv_load1 2 rfl rfl rfl) rfl ?_ | refine G.v (rv_loadE rfl (by first | exact Rd.stays (by assumption) | exact Rd.owned 0 rfl | exact Rd.owned 1 rfl | exact Rd.owned 2 rfl) (by assumption) rfl) rfl ?_)
  (first | refine G.v (rv_field rfl) rfl ?_ | refine G.v (rv_fieldE rfl) rfl ?_)
  (first | refine G.op0 (og_store 0 rfl rfl rfl rfl rfl rfl rfl rfl) (fun _ _ => ?_) | refine G.op0 (og_store 1 rfl rfl rfl rfl rfl rfl rfl rfl) (fun _ _ => ?_) | refine G.op0 (og_store 2 rfl rfl rfl rfl rfl rfl rfl rfl) (fun _ _ => ?_) | refine G.op0 (og_storeE 0 rfl rfl rfl (by assumption) rfl rfl rfl rfl rfl) (fun _ _ => ?_) | refine G.op0 (og_storeE 1 rfl rfl rfl (by assumption) rfl rfl rfl rfl rfl) (fun _ _ => ?_) | refine G.op0 (og_storeE 2 rfl rfl rfl (by assumption) rfl rfl rfl rfl rfl) (fun _ _ => ?_))
  refine G.done ?_
  refine G.thenN ?_
  refine G.seq ?_
  refine G.region ?_
  (first | refine G.v (rv_field rfl) rfl ?_ | refine G.v (rv_fieldE rfl) rfl ?_)
  (first | refine G.v (rv_load1 0 rfl rfl rfl) rfl ?_ | refine G.v (rv_load1 1 rfl rfl rfl) rfl ?_ | refine G.v (rv_load1 2 rfl rfl rfl) rfl ?_ | refine G.v (rv_loadE rfl (by first | exact Rd.stays (by assumption) | exact Rd.owned 0 rfl | exact Rd.owned 1 rfl | exact Rd.owned 2 rfl) (by assumption) rfl) rfl ?_)
  (first | refine G.v (rv_field rfl) rfl ?_ | refine G.v (rv_fieldE rfl) rfl ?_)
  (first | refine G.op0 (og_store 0 rfl rfl rfl rfl rfl rfl rfl rfl) (fun _ _ => ?_) | refine G.op0 (og_store 1 rfl rfl rfl rfl rfl rfl rfl rfl) (fun _ _ => ?_) | refine G.op0 (og_store 2 rfl rfl rfl rfl rfl rfl rfl rfl) (fun _ _ => ?_) | refine G.op0 (og_storeE 0 rfl rfl rfl (by assumption) rfl rfl rfl rfl rfl) (fun _ _ => ?_) | refine G.op0 (og_storeE 1 rfl rfl rfl (by assumption) rfl rfl rfl rfl rfl) (fun _ _ => ?_) | refine G.op0 (og_storeE 2 rfl rfl rfl (by assumption) rfl rfl rfl rfl rfl) (fun _ _ => ?_))
  refine G.done ?_
  refine G.thenN ?_
  refine G.seq ?_
  refine G.region ?_
  (first | refine G.v (rv_field rfl) rfl ?_ | refine G.v (rv_fieldE rfl) rfl ?_)
  (first | refine G.v (rv_load1 0 rfl rfl rfl) rfl ?_ | refine G.v (rv_load1 1 rfl rfl rfl) rfl ?_ | refine G.v (rv_load1 2 rfl rfl rfl) rfl ?_ | refine G.v (rv_loadE rfl (by first | exact Rd.stays (by assumption) | exact Rd.owned 0 rfl | exact Rd.owned 1 rfl | exact Rd.owned 2 rfl) (by assumption) rfl) rfl ?_)
  (first | refine G.v (rv_field rfl) rfl ?_ | refine G.v (rv_fieldE rfl) rfl ?_)
  (first | refine G.op0 (og_store 0 rfl rfl rfl rfl rfl rfl rfl rfl) (fun _ _ => ?_) | refine G.op0 (og_store 1 rfl rfl rfl rfl rfl rfl rfl rfl) (fun _ _ => ?_) | refine G.op0 (og_store 2 rfl rfl rfl rfl rfl rfl rfl rfl) (fun _ _ => ?_) | refine G.op0 (og_storeE 0 rfl rfl rfl (by assumption) rfl rfl rfl rfl rfl) (fun _ _ => ?_) | refine G.op0 (og_storeE 1 rfl rfl rfl (by assumption) rfl rfl rfl rfl rfl) (fun _ _ => ?_) | refine G.op0 (og_storeE 2 rfl rfl rfl (by assumption) rfl rfl rfl rfl rfl) (fun _ _ => ?_))
  refine G.done ?_
  refine G.thenN ?_
  refine G.seq ?_
  refine G.region ?_
  (first | refine G.v (rv_field rfl) rfl ?_ | refine G.v (rv_fieldE rfl) rfl ?_)
  (first | refine G.v (rv_load1 0 rfl rfl rfl) rfl ?_ | refine G.v (rv_load1 1 rfl rfl rfl) rfl ?_ | refine G.v (rv_load1 2 rfl rfl rfl) rfl ?_ | refine G.v (rv_loadE rfl (by first | exact Rd.stays (by assumption) | exact Rd.owned 0 rfl | exact Rd.owned 1 rfl | exact Rd.owned 2 rfl) (by assumption) rfl) rfl ?_)
  (first | refine G.v (rv_field rfl) rfl ?_ | refine G.v (rv_fieldE rfl) rfl ?_)
  (first | refine G.op0 (og_store 0 rfl rfl rfl rfl rfl rfl rfl rfl) (fun _ _ => ?_) | refine G.op0 (og_store 1 rfl rfl rfl rfl rfl rfl rfl rfl) (fun _ _ => ?_) | refine G.op0 (og_store 2 rfl rfl rfl rfl rfl rfl rfl rfl) (fun _ _ => ?_) | refine G.op0 (og_storeE 0 rfl rfl rfl (by assumption) rfl rfl rfl rfl rfl) (fun _ _ => ?_) | refine G.op0 (og_storeE 1 rfl rfl rfl (by assumption) rfl rfl rfl rfl rfl) (fun _ _ => ?_) | refine G.op0 (og_storeE 2 rfl rfl rfl (by assumption) rfl rfl rfl rfl rfl) (fun _ _ => ?_))
  refine G.done ?_
  refine G.thenN ?_
  refine G.seq ?_
  refine G.region ?_
  (first | refine G.v (rv_loadW 0 rfl rfl rfl) rfl ?_ | refine G.v (rv_loadW 1 rfl rfl rfl) rfl ?_ | refine G.v (rv_loadW 2 rfl rfl rfl) rfl ?_ | refine G.v (rv_loadEW rfl (by first | exact Rd.stays (by assumption) | exact Rd.owned 0 rfl | exact Rd.owned 1 rfl | exact Rd.owned 2 rfl) (by assumption) rfl) rfl ?_ | refine G.v (rv_loadS 0 rfl rfl rfl rfl) rfl ?_ | refine G.v (rv_loadS 1 rfl rfl rfl rfl) rfl ?_ | refine G.v (rv_loadS 2 rfl rfl rfl rfl) rfl ?_ | refine G.v (rv_loadES rfl (by first | exact Rd.stays (by assumption) | exact Rd.owned 0 rfl | exact Rd.owned 1 rfl | exact Rd.owned 2 rfl) (by assumption) rfl rfl) rfl ?_)
  (first | refine G.op0 (og_store 0 rfl rfl rfl rfl rfl rfl rfl rfl) (fun _ _ => ?_) | refine G.op0 (og_store 1 rfl rfl rfl rfl rfl rfl rfl rfl) (fun _ _ => ?_) | refine G.op0 (og_store 2 rfl rfl rfl rfl rfl rfl rfl rfl) (fun _ _ => ?_) | refine G.op0 (og_storeE 0 rfl rfl rfl (by assumption) rfl rfl rfl rfl rfl) (fun _ _ => ?_) | refine G.op0 (og_storeE 1 rfl rfl rfl (by assumption) rfl rfl rfl rfl rfl) (fun _ _ => ?_) | refine G.op0 (og_storeE 2 rfl rfl rfl (by assumption) rfl rfl rfl rfl rfl) (fun _ _ => ?_))
  refine G.done ?_
  refine G.thenN ?_
  refine G.ret ?_
  first | exact G.retFVc 0 rfl rfl rfl rfl rfl | exact G.retFVc 1 rfl rfl rfl rfl rfl | exact G.retFVc 2 rfl rfl rfl rfl rfl
theorem toPallet_any (b : PalletM) (w : World) : FnV Try.prog 19 [b.val] w b.val := by
  refine FnV.of (n := 17) Try.func19 rfl rfl ?_
  refine G.seq ?_
  refine G.region ?_
  refine G.op (og_box rfl rfl) rfl (fun b _ => ?_)
  refine G.op (og_alloc) rfl (fun b _ => ?_)
  refine G.done ?_
  refine G.thenN ?_
  refine G.seq ?_
  refine G.region ?_
  refine G.op (og_alloc) rfl (fun b _ => ?_)
  refine G.done ?_
  refine G.thenN ?_
  refine G.seq ?_
  refine G.region ?_
  (first | refine G.v (rv_field rfl) rfl ?_ | refine G.v (rv_fieldE rfl) rfl ?_)
  (first | refine G.v (rv_load1 0 rfl rfl rfl) rfl ?_ | refine G.v (rv_load1 1 rfl rfl rfl) rfl ?_ | refine G.v (rv_load1 2 rfl rfl rfl) rfl ?_ | refine G.v (rv_loadE rfl (by first | exact Rd.stays (by assumption) | exact Rd.owned 0 rfl | exact Rd.owned 1 rfl | exact Rd.owned 2 rfl) (by assumption) rfl) rfl ?_)
  (first | refine G.v (rv_field rfl) rfl ?_ | refine G.v (rv_fieldE rfl) rfl ?_)
  (first | refine G.op0 (og_store 0 rfl rfl rfl rfl rfl rfl rfl rfl) (fun _ _ => ?_) | refine G.op0 (og_store 1 rfl rfl rfl rfl rfl rfl rfl rfl) (fun _ _ => ?_) | refine G.op0 (og_store 2 rfl rfl rfl rfl rfl rfl rfl rfl) (fun _ _ => ?_) | refine G.op0 (og_storeE 0 rfl rfl rfl (by assumption) rfl rfl rfl rfl rfl) (fun _ _ => ?_) | refine G.op0 (og_storeE 1 rfl rfl rfl (by assumption) rfl rfl rfl rfl rfl) (fun _ _ => ?_) | refine G.op0 (og_storeE 2 rfl rfl rfl (by assumption) rfl rfl rfl rfl rfl) (fun _ _ => ?_))
  refine G.done ?_
  refine G.thenN ?_
  refine G.seq ?_
  refine G.region ?_
  (first | refine G.v (rv_field rfl) rfl ?_ | refine G.v (rv_fieldE rfl) rfl ?_)
  (first | refine G.v (rv_load1 0 rfl rfl rfl) rfl ?_ | refine G.v (rv_load1 1 rfl rfl rfl) rfl ?_ | refine G.v (rv_load1 2 rfl rfl rfl) rfl ?_ | refine G.v (rv_loadE rfl (by first | exact Rd.stays (by assumption) | exact Rd.owned 0 rfl | exact Rd.owned 1 rfl | exact Rd.owned 2 rfl) (by assumption) rfl) rfl ?_)
  (first | refine G.v (rv_field rfl) rfl ?_ | refine G.v (rv_fieldE rfl) rfl ?_)
  (first | refine G.op0 (og_store 0 rfl rfl rfl rfl rfl rfl rfl rfl) (fun _ _ => ?_) | refine G.op0 (og_store 1 rfl rfl rfl rfl rfl rfl rfl rfl) (fun _ _ => ?_) | refine G.op0 (og_store 2 rfl rfl rfl rfl rfl rfl rfl rfl) (fun _ _ => ?_) | refine G.op0 (og_storeE 0 rfl rfl rfl (by assumption) rfl rfl rfl rfl rfl) (fun _ _ => ?_) | refine G.op0 (og_storeE 1 rfl rfl rfl (by assumption) rfl rfl rfl rfl rfl) (fun _ _ => ?_) | refine G.op0 (og_storeE 2 rfl rfl rfl (by assumption) rfl rfl rfl rfl rfl) (fun _ _ => ?_))
  refine G.done ?_
  refine G.thenN ?_
  refine G.seq ?_
  refine G.region ?_
  (first | refine G.v (rv_field rfl) rfl ?_ | refine G.v (rv_fieldE rfl) rfl ?_)
  (first | refine G.v (rv_load1 0 rfl rfl rfl) rfl ?_ | refine G.v (rv_load1 1 rfl rfl rfl) rfl ?_ | refine G.v (rv_load1 2 rfl rfl rfl) rfl ?_ | refine G.v (rv_loadE rfl (by first | exact Rd.stays (by assumption) | exact Rd.owned 0 rfl | exact Rd.owned 1 rfl | exact Rd.owned 2 rfl) (by assumption) rfl) rfl ?_)
  (first | refine G.v (rv_field rfl) rfl ?_ | refine G.v (rv_fieldE rfl) rfl ?_)
  (first | refine G.op0 (og_store 0 rfl rfl rfl rfl rfl rfl rfl rfl) (fun _ _ => ?_) | refine G.op0 (og_store 1 rfl rfl rfl rfl rfl rfl rfl rfl) (fun _ _ => ?_) | refine G.op0 (og_store 2 rfl rfl rfl rfl rfl rfl rfl rfl) (fun _ _ => ?_) | refine G.op0 (og_storeE 0 rfl rfl rfl (by assumption) rfl rfl rfl rfl rfl) (fun _ _ => ?_) | refine G.op0 (og_storeE 1 rfl rfl rfl (by assumption) rfl rfl rfl rfl rfl) (fun _ _ => ?_) | refine G.op0 (og_storeE 2 rfl rfl rfl (by assumption) rfl rfl rfl rfl rfl) (fun _ _ => ?_))
  refine G.done ?_
  refine G.thenN ?_
  refine G.seq ?_
  refine G.region ?_
  (first | refine G.v (rv_field rfl) rfl ?_ | refine G.v (rv_fieldE rfl) rfl ?_)
  (first | refine G.v (rv_load1 0 rfl rfl rfl) rfl ?_ | refine G.v (rv_load1 1 rfl rfl rfl) rfl ?_ | refine G.v (rv_load1 2 rfl rfl rfl) rfl ?_ | refine G.v (rv_loadE rfl (by first | exact Rd.stays (by assumption) | exact Rd.owned 0 rfl | exact Rd.owned 1 rfl | exact Rd.owned 2 rfl) (by assumption) rfl) rfl ?_)
  (first | refine G.v (rv_field rfl) rfl ?_ | refine G.v (rv_fieldE rfl) rfl ?_)
  (first | refine G.op0 (og_store 0 rfl rfl rfl rfl rfl rfl rfl rfl) (fun _ _ => ?_) | refine G.op0 (og_store 1 rfl rfl rfl rfl rfl rfl rfl rfl) (fun _ _ => ?_) | refine G.op0 (og_store 2 rfl rfl rfl rfl rfl rfl rfl rfl) (fun _ _ => ?_) | refine G.op0 (og_storeE 0 rfl rfl rfl (by assumption) rfl rfl rfl rfl rfl) (fun _ _ => ?_) | refine G.op0 (og_storeE 1 rfl rfl rfl (by assumption) rfl rfl rfl rfl rfl) (fun _ _ => ?_) | refine G.op0 (og_storeE 2 rfl rfl rfl (by assumption) rfl rfl rfl rfl rfl) (fun _ _ => ?_))
  refine G.done ?_
  refine G.thenN ?_
  refine G.seq ?_
  refine G.region ?_
  (first | refine G.v (rv_loadW 0 rfl rfl rfl) rfl ?_ | refine G.v (rv_loadW 1 rfl rfl rfl) rfl ?_ | refine G.v (rv_loadW 2 rfl rfl rfl) rfl ?_ | refine G.v (rv_loadEW rfl (by first | exact Rd.stays (by assumption) | exact Rd.owned 0 rfl | exact Rd.owned 1 rfl | exact Rd.owned 2 rfl) (by assumption) rfl) rfl ?_ | refine G.v (rv_loadS 0 rfl rfl rfl rfl) rfl ?_ | refine G.v (rv_loadS 1 rfl rfl rfl rfl) rfl ?_ | refine G.v (rv_loadS 2 rfl rfl rfl rfl) rfl ?_ | refine G.v (rv_loadES rfl (by first | exact Rd.stays (by assumption) | exact Rd.owned 0 rfl | exact Rd.owned 1 rfl | exact Rd.owned 2 rfl) (by assumption) rfl rfl) rfl ?_)
  (first | refine G.op0 (og_store 0 rfl rfl rfl rfl rfl rfl rfl rfl) (fun _ _ => ?_) | refine G.op0 (og_store 1 rfl rfl rfl rfl rfl rfl rfl rfl) (fun _ _ => ?_) | refine G.op0 (og_store 2 rfl rfl rfl rfl rfl rfl rfl rfl) (fun _ _ => ?_) | refine G.op0 (og_storeE 0 rfl rfl rfl (by assumption) rfl rfl rfl rfl rfl) (fun _ _ => ?_) | refine G.op0 (og_storeE 1 rfl rfl rfl (by assumption) rfl rfl rfl rfl rfl) (fun _ _ => ?_) | refine G.op0 (og_storeE 2 rfl rfl rfl (by assumption) rfl rfl rfl rfl rfl) (fun _ _ => ?_))
  refine G.done ?_
  refine G.thenN ?_
  refine G.ret ?_
  first | exact G.retFVc 0 rfl rfl rfl rfl rfl | exact G.retFVc 1 rfl rfl rfl rfl rfl | exact G.retFVc 2 rfl rfl rfl rfl rfl
theorem fnExactOverlap_any (a : BoxM) (s : SpotM) (b : BoxM) (t : SpotM) (w : World) : FnV Try.prog 3 [a.val, s.val, b.val, t.val] w (.bool true) := by
  refine FnV.of (n := 32) Try.func3 rfl rfl ?_
  refine G.seq ?_
  refine G.region ?_
  refine G.op (og_box rfl rfl) rfl (fun b _ => ?_)
  refine G.op (og_box rfl rfl) rfl (fun b _ => ?_)
  refine G.op (og_box rfl rfl) rfl (fun b _ => ?_)
  refine G.op (og_box rfl rfl) rfl (fun b _ => ?_)
  refine G.v (rv_assign rfl) rfl ?_
  refine G.done ?_
  refine G.thenN ?_
  refine G.seq ?_
  refine G.drawL [] ?_
  (first | refine GE.q 0 rfl (by kernel_rfl) rfl (qg_runs (rv_loadW 0 rfl rfl rfl)) rfl ?_ | refine GE.q 0 rfl (by kernel_rfl) rfl (qg_runs (rv_loadW 1 rfl rfl rfl)) rfl ?_ | refine GE.q 0 rfl (by kernel_rfl) rfl (qg_runs (rv_loadW 2 rfl rfl rfl)) rfl ?_ | refine GE.q 0 rfl (by kernel_rfl) rfl (qg_runs (rv_loadW 3 rfl rfl rfl)) rfl ?_ | refine GE.q 0 rfl (by kernel_rfl) rfl (qg_runs (rv_loadEW rfl (by first | exact Rd.stays (by assumption) | exact Rd.owned 0 rfl | exact Rd.owned 1 rfl | exact Rd.owned 2 rfl | exact Rd.owned 3 rfl) (by assumption) rfl)) rfl ?_ | refine GE.q 0 rfl (by kernel_rfl) rfl (qg_runs (rv_loadS 0 rfl rfl rfl rfl)) rfl ?_ | refine GE.q 0 rfl (by kernel_rfl) rfl (qg_runs (rv_loadS 1 rfl rfl rfl rfl)) rfl ?_ | refine GE.q 0 rfl (by kernel_rfl) rfl (qg_runs (rv_loadS 2 rfl rfl rfl rfl)) rfl ?_ | refine GE.q 0 rfl (by kernel_rfl) rfl (qg_runs (rv_loadS 3 rfl rfl rfl rfl)) rfl ?_ | refine GE.q 0 rfl (by kernel_rfl) rfl (qg_runs (rv_loadES rfl (by first | exact Rd.stays (by assumption) | exact Rd.owned 0 rfl | exact Rd.owned 1 rfl | exact Rd.owned 2 rfl | exact Rd.owned 3 rfl) (by assumption) rfl rfl)) rfl ?_)
  refine GE.q 1 rfl (by kernel_rfl) rfl (qg_call rfl rfl (fun w _ => toBox_any _ w)) rfl ?_
  (first | refine GE.q 2 rfl (by kernel_rfl) rfl (qg_runs (rv_loadW 0 rfl rfl rfl)) rfl ?_ | refine GE.q 2 rfl (by kernel_rfl) rfl (qg_runs (rv_loadW 1 rfl rfl rfl)) rfl ?_ | refine GE.q 2 rfl (by kernel_rfl) rfl (qg_runs (rv_loadW 2 rfl rfl rfl)) rfl ?_ | refine GE.q 2 rfl (by kernel_rfl) rfl (qg_runs (rv_loadW 3 rfl rfl rfl)) rfl ?_ | refine GE.q 2 rfl (by kernel_rfl) rfl (qg_runs (rv_loadEW rfl (by first | exact Rd.stays (by assumption) | exact Rd.owned 0 rfl | exact Rd.owned 1 rfl | exact Rd.owned 2 rfl | exact Rd.owned 3 rfl) (by assumption) rfl)) rfl ?_ | refine GE.q 2 rfl (by kernel_rfl) rfl (qg_runs (rv_loadS 0 rfl rfl rfl rfl)) rfl ?_ | refine GE.q 2 rfl (by kernel_rfl) rfl (qg_runs (rv_loadS 1 rfl rfl rfl rfl)) rfl ?_ | refine GE.q 2 rfl (by kernel_rfl) rfl (qg_runs (rv_loadS 2 rfl rfl rfl rfl)) rfl ?_ | refine GE.q 2 rfl (by kernel_rfl) rfl (qg_runs (rv_loadS 3 rfl rfl rfl rfl)) rfl ?_ | refine GE.q 2 rfl (by kernel_rfl) rfl (qg_runs (rv_loadES rfl (by first | exact Rd.stays (by assumption) | exact Rd.owned 0 rfl | exact Rd.owned 1 rfl | exact Rd.owned 2 rfl | exact Rd.owned 3 rfl) (by assumption) rfl rfl)) rfl ?_)
  refine GE.q 3 rfl (by kernel_rfl) rfl (qg_call rfl rfl (fun w _ => toSpot_any _ w)) rfl ?_
  (first | refine GE.q 4 rfl (by kernel_rfl) rfl (qg_runs (rv_loadW 0 rfl rfl rfl)) rfl ?_ | refine GE.q 4 rfl (by kernel_rfl) rfl (qg_runs (rv_loadW 1 rfl rfl rfl)) rfl ?_ | refine GE.q 4 rfl (by kernel_rfl) rfl (qg_runs (rv_loadW 2 rfl rfl rfl)) rfl ?_ | refine GE.q 4 rfl (by kernel_rfl) rfl (qg_runs (rv_loadW 3 rfl rfl rfl)) rfl ?_ | refine GE.q 4 rfl (by kernel_rfl) rfl (qg_runs (rv_loadEW rfl (by first | exact Rd.stays (by assumption) | exact Rd.owned 0 rfl | exact Rd.owned 1 rfl | exact Rd.owned 2 rfl | exact Rd.owned 3 rfl) (by assumption) rfl)) rfl ?_ | refine GE.q 4 rfl (by kernel_rfl) rfl (qg_runs (rv_loadS 0 rfl rfl rfl rfl)) rfl ?_ | refine GE.q 4 rfl (by kernel_rfl) rfl (qg_runs (rv_loadS 1 rfl rfl rfl rfl)) rfl ?_ | refine GE.q 4 rfl (by kernel_rfl) rfl (qg_runs (rv_loadS 2 rfl rfl rfl rfl)) rfl ?_ | refine GE.q 4 rfl (by kernel_rfl) rfl (qg_runs (rv_loadS 3 rfl rfl rfl rfl)) rfl ?_ | refine GE.q 4 rfl (by kernel_rfl) rfl (qg_runs (rv_loadES rfl (by first | exact Rd.stays (by assumption) | exact Rd.owned 0 rfl | exact Rd.owned 1 rfl | exact Rd.owned 2 rfl | exact Rd.owned 3 rfl) (by assumption) rfl rfl)) rfl ?_)
  refine GE.q 5 rfl (by kernel_rfl) rfl (qg_call rfl rfl (fun w _ => toBox_any _ w)) rfl ?_
  (first | refine GE.q 6 rfl (by kernel_rfl) rfl (qg_runs (rv_loadW 0 rfl rfl rfl)) rfl ?_ | refine GE.q 6 rfl (by kernel_rfl) rfl (qg_runs (rv_loadW 1 rfl rfl rfl)) rfl ?_ | refine GE.q 6 rfl (by kernel_rfl) rfl (qg_runs (rv_loadW 2 rfl rfl rfl)) rfl ?_ | refine GE.q 6 rfl (by kernel_rfl) rfl (qg_runs (rv_loadW 3 rfl rfl rfl)) rfl ?_ | refine GE.q 6 rfl (by kernel_rfl) rfl (qg_runs (rv_loadEW rfl (by first | exact Rd.stays (by assumption) | exact Rd.owned 0 rfl | exact Rd.owned 1 rfl | exact Rd.owned 2 rfl | exact Rd.owned 3 rfl) (by assumption) rfl)) rfl ?_ | refine GE.q 6 rfl (by kernel_rfl) rfl (qg_runs (rv_loadS 0 rfl rfl rfl rfl)) rfl ?_ | refine GE.q 6 rfl (by kernel_rfl) rfl (qg_runs (rv_loadS 1 rfl rfl rfl rfl)) rfl ?_ | refine GE.q 6 rfl (by kernel_rfl) rfl (qg_runs (rv_loadS 2 rfl rfl rfl rfl)) rfl ?_ | refine GE.q 6 rfl (by kernel_rfl) rfl (qg_runs (rv_loadS 3 rfl rfl rfl rfl)) rfl ?_ | refine GE.q 6 rfl (by kernel_rfl) rfl (qg_runs (rv_loadES rfl (by first | exact Rd.stays (by assumption) | exact Rd.owned 0 rfl | exact Rd.owned 1 rfl | exact Rd.owned 2 rfl | exact Rd.owned 3 rfl) (by assumption) rfl rfl)) rfl ?_)
  refine GE.q 7 rfl (by kernel_rfl) rfl (qg_call rfl rfl (fun w _ => toSpot_any _ w)) rfl ?_
  refine GE.q 8 rfl (by kernel_rfl) rfl (qg_call rfl rfl (fun w _ => soverlap_any _ _ _ _ w)) rfl ?_
  refine GE.q 9 rfl (by kernel_rfl) rfl (qg_runs (rv_assign rfl)) rfl ?_
  refine GE.done (by kernel_rfl) ?_
  refine G.thenN ?_
  refine G.seq ?_
  refine G.drawL [] ?_
  (first | refine GE.q 0 rfl (by kernel_rfl) rfl (qg_runs (rv_loadW 0 rfl rfl rfl)) rfl ?_ | refine GE.q 0 rfl (by kernel_rfl) rfl (qg_runs (rv_loadW 1 rfl rfl rfl)) rfl ?_ | refine GE.q 0 rfl (by kernel_rfl) rfl (qg_runs (rv_loadW 2 rfl rfl rfl)) rfl ?_ | refine GE.q 0 rfl (by kernel_rfl) rfl (qg_runs (rv_loadW 3 rfl rfl rfl)) rfl ?_ | refine GE.q 0 rfl (by kernel_rfl) rfl (qg_runs (rv_loadEW rfl (by first | exact Rd.stays (by assumption) | exact Rd.owned 0 rfl | exact Rd.owned 1 rfl | exact Rd.owned 2 rfl | exact Rd.owned 3 rfl) (by assumption) rfl)) rfl ?_ | refine GE.q 0 rfl (by kernel_rfl) rfl (qg_runs (rv_loadS 0 rfl rfl rfl rfl)) rfl ?_ | refine GE.q 0 rfl (by kernel_rfl) rfl (qg_runs (rv_loadS 1 rfl rfl rfl rfl)) rfl ?_ | refine GE.q 0 rfl (by kernel_rfl) rfl (qg_runs (rv_loadS 2 rfl rfl rfl rfl)) rfl ?_ | refine GE.q 0 rfl (by kernel_rfl) rfl (qg_runs (rv_loadS 3 rfl rfl rfl rfl)) rfl ?_ | refine GE.q 0 rfl (by kernel_rfl) rfl (qg_runs (rv_loadES rfl (by first | exact Rd.stays (by assumption) | exact Rd.owned 0 rfl | exact Rd.owned 1 rfl | exact Rd.owned 2 rfl | exact Rd.owned 3 rfl) (by assumption) rfl rfl)) rfl ?_)
  refine GE.q 1 rfl (by kernel_rfl) rfl (qg_call rfl rfl (fun w _ => toBox_any _ w)) rfl ?_
  (first | refine GE.q 2 rfl (by kernel_rfl) rfl (qg_runs (rv_loadW 0 rfl rfl rfl)) rfl ?_ | refine GE.q 2 rfl (by kernel_rfl) rfl (qg_runs (rv_loadW 1 rfl rfl rfl)) rfl ?_ | refine GE.q 2 rfl (by kernel_rfl) rfl (qg_runs (rv_loadW 2 rfl rfl rfl)) rfl ?_ | refine GE.q 2 rfl (by kernel_rfl) rfl (qg_runs (rv_loadW 3 rfl rfl rfl)) rfl ?_ | refine GE.q 2 rfl (by kernel_rfl) rfl (qg_runs (rv_loadEW rfl (by first | exact Rd.stays (by assumption) | exact Rd.owned 0 rfl | exact Rd.owned 1 rfl | exact Rd.owned 2 rfl | exact Rd.owned 3 rfl) (by assumption) rfl)) rfl ?_ | refine GE.q 2 rfl (by kernel_rfl) rfl (qg_runs (rv_loadS 0 rfl rfl rfl rfl)) rfl ?_ | refine GE.q 2 rfl (by kernel_rfl) rfl (qg_runs (rv_loadS 1 rfl rfl rfl rfl)) rfl ?_ | refine GE.q 2 rfl (by kernel_rfl) rfl (qg_runs (rv_loadS 2 rfl rfl rfl rfl)) rfl ?_ | refine GE.q 2 rfl (by kernel_rfl) rfl (qg_runs (rv_loadS 3 rfl rfl rfl rfl)) rfl ?_ | refine GE.q 2 rfl (by kernel_rfl) rfl (qg_runs (rv_loadES rfl (by first | exact Rd.stays (by assumption) | exact Rd.owned 0 rfl | exact Rd.owned 1 rfl | exact Rd.owned 2 rfl | exact Rd.owned 3 rfl) (by assumption) rfl rfl)) rfl ?_)
  refine GE.q 3 rfl (by kernel_rfl) rfl (qg_call rfl rfl (fun w _ => toSpot_any _ w)) rfl ?_
  (first | refine GE.q 4 rfl (by kernel_rfl) rfl (qg_runs (rv_loadW 0 rfl rfl rfl)) rfl ?_ | refine GE.q 4 rfl (by kernel_rfl) rfl (qg_runs (rv_loadW 1 rfl rfl rfl)) rfl ?_ | refine GE.q 4 rfl (by kernel_rfl) rfl (qg_runs (rv_loadW 2 rfl rfl rfl)) rfl ?_ | refine GE.q 4 rfl (by kernel_rfl) rfl (qg_runs (rv_loadW 3 rfl rfl rfl)) rfl ?_ | refine GE.q 4 rfl (by kernel_rfl) rfl (qg_runs (rv_loadEW rfl (by first | exact Rd.stays (by assumption) | exact Rd.owned 0 rfl | exact Rd.owned 1 rfl | exact Rd.owned 2 rfl | exact Rd.owned 3 rfl) (by assumption) rfl)) rfl ?_ | refine GE.q 4 rfl (by kernel_rfl) rfl (qg_runs (rv_loadS 0 rfl rfl rfl rfl)) rfl ?_ | refine GE.q 4 rfl (by kernel_rfl) rfl (qg_runs (rv_loadS 1 rfl rfl rfl rfl)) rfl ?_ | refine GE.q 4 rfl (by kernel_rfl) rfl (qg_runs (rv_loadS 2 rfl rfl rfl rfl)) rfl ?_ | refine GE.q 4 rfl (by kernel_rfl) rfl (qg_runs (rv_loadS 3 rfl rfl rfl rfl)) rfl ?_ | refine GE.q 4 rfl (by kernel_rfl) rfl (qg_runs (rv_loadES rfl (by first | exact Rd.stays (by assumption) | exact Rd.owned 0 rfl | exact Rd.owned 1 rfl | exact Rd.owned 2 rfl | exact Rd.owned 3 rfl) (by assumption) rfl rfl)) rfl ?_)
  refine GE.q 5 rfl (by kernel_rfl) rfl (qg_call rfl rfl (fun w _ => toBox_any _ w)) rfl ?_
  (first | refine GE.q 6 rfl (by kernel_rfl) rfl (qg_runs (rv_loadW 0 rfl rfl rfl)) rfl ?_ | refine GE.q 6 rfl (by kernel_rfl) rfl (qg_runs (rv_loadW 1 rfl rfl rfl)) rfl ?_ | refine GE.q 6 rfl (by kernel_rfl) rfl (qg_runs (rv_loadW 2 rfl rfl rfl)) rfl ?_ | refine GE.q 6 rfl (by kernel_rfl) rfl (qg_runs (rv_loadW 3 rfl rfl rfl)) rfl ?_ | refine GE.q 6 rfl (by kernel_rfl) rfl (qg_runs (rv_loadEW rfl (by first | exact Rd.stays (by assumption) | exact Rd.owned 0 rfl | exact Rd.owned 1 rfl | exact Rd.owned 2 rfl | exact Rd.owned 3 rfl) (by assumption) rfl)) rfl ?_ | refine GE.q 6 rfl (by kernel_rfl) rfl (qg_runs (rv_loadS 0 rfl rfl rfl rfl)) rfl ?_ | refine GE.q 6 rfl (by kernel_rfl) rfl (qg_runs (rv_loadS 1 rfl rfl rfl rfl)) rfl ?_ | refine GE.q 6 rfl (by kernel_rfl) rfl (qg_runs (rv_loadS 2 rfl rfl rfl rfl)) rfl ?_ | refine GE.q 6 rfl (by kernel_rfl) rfl (qg_runs (rv_loadS 3 rfl rfl rfl rfl)) rfl ?_ | refine GE.q 6 rfl (by kernel_rfl) rfl (qg_runs (rv_loadES rfl (by first | exact Rd.stays (by assumption) | exact Rd.owned 0 rfl | exact Rd.owned 1 rfl | exact Rd.owned 2 rfl | exact Rd.owned 3 rfl) (by assumption) rfl rfl)) rfl ?_)
  refine GE.q 7 rfl (by kernel_rfl) rfl (qg_call rfl rfl (fun w _ => toSpot_any _ w)) rfl ?_
  refine GE.q 8 rfl (by kernel_rfl) rfl (qg_call rfl rfl (fun w _ => overlap_any _ _ _ _ w)) rfl ?_
  refine GE.q 9 rfl (by kernel_rfl) rfl (qg_runs (rv_assign rfl)) rfl ?_
  refine GE.done (by kernel_rfl) ?_
  refine G.thenN ?_
  refine G.seq ?_
  refine G.seq ?_
  refine G.region ?_
  refine G.v (rv_move rfl) rfl ?_
  refine G.v (rv_move rfl) rfl ?_
  refine G.v (rv_neqb rfl rfl) rfl ?_
  refine G.done ?_
  refine G.thenN ?_
  refine G.cond rfl (fun hc => ?_) (fun hc => ?_)
  · try exact Bool.noConfusion hc
    all_goals
     try replace hc := of_decide_eq_true hc
     try (exfalso; first | contradiction | omega)
     all_goals
      refine G.seq ?_
      refine G.region ?_
      refine G.v (rv_assign rfl) rfl ?_
      refine G.done ?_
      refine G.thenN ?_
      refine G.ret ?_
      refine G.thenR ?_
      first | exact G.retFV rfl rfl rfl | (exfalso; simp at hc)
  · try exact Bool.noConfusion hc
    all_goals
     try replace hc := of_decide_eq_false hc
     try (exfalso; first | contradiction | omega)
     all_goals
      refine G.skip ?_
      refine G.thenN ?_
      refine G.seq ?_
      refine G.region ?_
      refine G.v (rv_assign rfl) rfl ?_
      refine G.done ?_
      refine G.thenN ?_
      refine G.ret ?_
      first | exact G.retFV rfl rfl rfl | (exfalso; simp at hc)
theorem fnExactWithin_any (p : PalletM) (b : BoxM) (s : SpotM) (w : World) : FnV Try.prog 4 [p.val, b.val, s.val] w (.bool true) := by
  refine FnV.of (n := 26) Try.func4 rfl rfl ?_
  refine G.seq ?_
  refine G.region ?_
  refine G.op (og_box rfl rfl) rfl (fun b _ => ?_)
  refine G.op (og_box rfl rfl) rfl (fun b _ => ?_)
  refine G.op (og_box rfl rfl) rfl (fun b _ => ?_)
  refine G.v (rv_assign rfl) rfl ?_
  refine G.done ?_
  refine G.thenN ?_
  refine G.seq ?_
  refine G.drawL [] ?_
  (first | refine GE.q 0 rfl (by kernel_rfl) rfl (qg_runs (rv_loadW 0 rfl rfl rfl)) rfl ?_ | refine GE.q 0 rfl (by kernel_rfl) rfl (qg_runs (rv_loadW 1 rfl rfl rfl)) rfl ?_ | refine GE.q 0 rfl (by kernel_rfl) rfl (qg_runs (rv_loadW 2 rfl rfl rfl)) rfl ?_ | refine GE.q 0 rfl (by kernel_rfl) rfl (qg_runs (rv_loadEW rfl (by first | exact Rd.stays (by assumption) | exact Rd.owned 0 rfl | exact Rd.owned 1 rfl | exact Rd.owned 2 rfl) (by assumption) rfl)) rfl ?_ | refine GE.q 0 rfl (by kernel_rfl) rfl (qg_runs (rv_loadS 0 rfl rfl rfl rfl)) rfl ?_ | refine GE.q 0 rfl (by kernel_rfl) rfl (qg_runs (rv_loadS 1 rfl rfl rfl rfl)) rfl ?_ | refine GE.q 0 rfl (by kernel_rfl) rfl (qg_runs (rv_loadS 2 rfl rfl rfl rfl)) rfl ?_ | refine GE.q 0 rfl (by kernel_rfl) rfl (qg_runs (rv_loadES rfl (by first | exact Rd.stays (by assumption) | exact Rd.owned 0 rfl | exact Rd.owned 1 rfl | exact Rd.owned 2 rfl) (by assumption) rfl rfl)) rfl ?_)
  refine GE.q 1 rfl (by kernel_rfl) rfl (qg_call rfl rfl (fun w _ => toPallet_any _ w)) rfl ?_
  (first | refine GE.q 2 rfl (by kernel_rfl) rfl (qg_runs (rv_loadW 0 rfl rfl rfl)) rfl ?_ | refine GE.q 2 rfl (by kernel_rfl) rfl (qg_runs (rv_loadW 1 rfl rfl rfl)) rfl ?_ | refine GE.q 2 rfl (by kernel_rfl) rfl (qg_runs (rv_loadW 2 rfl rfl rfl)) rfl ?_ | refine GE.q 2 rfl (by kernel_rfl) rfl (qg_runs (rv_loadEW rfl (by first | exact Rd.stays (by assumption) | exact Rd.owned 0 rfl | exact Rd.owned 1 rfl | exact Rd.owned 2 rfl) (by assumption) rfl)) rfl ?_ | refine GE.q 2 rfl (by kernel_rfl) rfl (qg_runs (rv_loadS 0 rfl rfl rfl rfl)) rfl ?_ | refine GE.q 2 rfl (by kernel_rfl) rfl (qg_runs (rv_loadS 1 rfl rfl rfl rfl)) rfl ?_ | refine GE.q 2 rfl (by kernel_rfl) rfl (qg_runs (rv_loadS 2 rfl rfl rfl rfl)) rfl ?_ | refine GE.q 2 rfl (by kernel_rfl) rfl (qg_runs (rv_loadES rfl (by first | exact Rd.stays (by assumption) | exact Rd.owned 0 rfl | exact Rd.owned 1 rfl | exact Rd.owned 2 rfl) (by assumption) rfl rfl)) rfl ?_)
  refine GE.q 3 rfl (by kernel_rfl) rfl (qg_call rfl rfl (fun w _ => toBox_any _ w)) rfl ?_
  (first | refine GE.q 4 rfl (by kernel_rfl) rfl (qg_runs (rv_loadW 0 rfl rfl rfl)) rfl ?_ | refine GE.q 4 rfl (by kernel_rfl) rfl (qg_runs (rv_loadW 1 rfl rfl rfl)) rfl ?_ | refine GE.q 4 rfl (by kernel_rfl) rfl (qg_runs (rv_loadW 2 rfl rfl rfl)) rfl ?_ | refine GE.q 4 rfl (by kernel_rfl) rfl (qg_runs (rv_loadEW rfl (by first | exact Rd.stays (by assumption) | exact Rd.owned 0 rfl | exact Rd.owned 1 rfl | exact Rd.owned 2 rfl) (by assumption) rfl)) rfl ?_ | refine GE.q 4 rfl (by kernel_rfl) rfl (qg_runs (rv_loadS 0 rfl rfl rfl rfl)) rfl ?_ | refine GE.q 4 rfl (by kernel_rfl) rfl (qg_runs (rv_loadS 1 rfl rfl rfl rfl)) rfl ?_ | refine GE.q 4 rfl (by kernel_rfl) rfl (qg_runs (rv_loadS 2 rfl rfl rfl rfl)) rfl ?_ | refine GE.q 4 rfl (by kernel_rfl) rfl (qg_runs (rv_loadES rfl (by first | exact Rd.stays (by assumption) | exact Rd.owned 0 rfl | exact Rd.owned 1 rfl | exact Rd.owned 2 rfl) (by assumption) rfl rfl)) rfl ?_)
  refine GE.q 5 rfl (by kernel_rfl) rfl (qg_call rfl rfl (fun w _ => toSpot_any _ w)) rfl ?_
  refine GE.q 6 rfl (by kernel_rfl) rfl (qg_call rfl rfl (fun w _ => swithin_any _ _ _ w)) rfl ?_
  refine GE.q 7 rfl (by kernel_rfl) rfl (qg_runs (rv_assign rfl)) rfl ?_
  refine GE.done (by kernel_rfl) ?_
  refine G.thenN ?_
  refine G.seq ?_
  refine G.drawL [] ?_
  (first | refine GE.q 0 rfl (by kernel_rfl) rfl (qg_runs (rv_loadW 0 rfl rfl rfl)) rfl ?_ | refine GE.q 0 rfl (by kernel_rfl) rfl (qg_runs (rv_loadW 1 rfl rfl rfl)) rfl ?_ | refine GE.q 0 rfl (by kernel_rfl) rfl (qg_runs (rv_loadW 2 rfl rfl rfl)) rfl ?_ | refine GE.q 0 rfl (by kernel_rfl) rfl (qg_runs (rv_loadEW rfl (by first | exact Rd.stays (by assumption) | exact Rd.owned 0 rfl | exact Rd.owned 1 rfl | exact Rd.owned 2 rfl) (by assumption) rfl)) rfl ?_ | refine GE.q 0 rfl (by kernel_rfl) rfl (qg_runs (rv_loadS 0 rfl rfl rfl rfl)) rfl ?_ | refine GE.q 0 rfl (by kernel_rfl) rfl (qg_runs (rv_loadS 1 rfl rfl rfl rfl)) rfl ?_ | refine GE.q 0 rfl (by kernel_rfl) rfl (qg_runs (rv_loadS 2 rfl rfl rfl rfl)) rfl ?_ | refine GE.q 0 rfl (by kernel_rfl) rfl (qg_runs (rv_loadES rfl (by first | exact Rd.stays (by assumption) | exact Rd.owned 0 rfl | exact Rd.owned 1 rfl | exact Rd.owned 2 rfl) (by assumption) rfl rfl)) rfl ?_)
  refine GE.q 1 rfl (by kernel_rfl) rfl (qg_call rfl rfl (fun w _ => toPallet_any _ w)) rfl ?_
  (first | refine GE.q 2 rfl (by kernel_rfl) rfl (qg_runs (rv_loadW 0 rfl rfl rfl)) rfl ?_ | refine GE.q 2 rfl (by kernel_rfl) rfl (qg_runs (rv_loadW 1 rfl rfl rfl)) rfl ?_ | refine GE.q 2 rfl (by kernel_rfl) rfl (qg_runs (rv_loadW 2 rfl rfl rfl)) rfl ?_ | refine GE.q 2 rfl (by kernel_rfl) rfl (qg_runs (rv_loadEW rfl (by first | exact Rd.stays (by assumption) | exact Rd.owned 0 rfl | exact Rd.owned 1 rfl | exact Rd.owned 2 rfl) (by assumption) rfl)) rfl ?_ | refine GE.q 2 rfl (by kernel_rfl) rfl (qg_runs (rv_loadS 0 rfl rfl rfl rfl)) rfl ?_ | refine GE.q 2 rfl (by kernel_rfl) rfl (qg_runs (rv_loadS 1 rfl rfl rfl rfl)) rfl ?_ | refine GE.q 2 rfl (by kernel_rfl) rfl (qg_runs (rv_loadS 2 rfl rfl rfl rfl)) rfl ?_ | refine GE.q 2 rfl (by kernel_rfl) rfl (qg_runs (rv_loadES rfl (by first | exact Rd.stays (by assumption) | exact Rd.owned 0 rfl | exact Rd.owned 1 rfl | exact Rd.owned 2 rfl) (by assumption) rfl rfl)) rfl ?_)
  refine GE.q 3 rfl (by kernel_rfl) rfl (qg_call rfl rfl (fun w _ => toBox_any _ w)) rfl ?_
  (first | refine GE.q 4 rfl (by kernel_rfl) rfl (qg_runs (rv_loadW 0 rfl rfl rfl)) rfl ?_ | refine GE.q 4 rfl (by kernel_rfl) rfl (qg_runs (rv_loadW 1 rfl rfl rfl)) rfl ?_ | refine GE.q 4 rfl (by kernel_rfl) rfl (qg_runs (rv_loadW 2 rfl rfl rfl)) rfl ?_ | refine GE.q 4 rfl (by kernel_rfl) rfl (qg_runs (rv_loadEW rfl (by first | exact Rd.stays (by assumption) | exact Rd.owned 0 rfl | exact Rd.owned 1 rfl | exact Rd.owned 2 rfl) (by assumption) rfl)) rfl ?_ | refine GE.q 4 rfl (by kernel_rfl) rfl (qg_runs (rv_loadS 0 rfl rfl rfl rfl)) rfl ?_ | refine GE.q 4 rfl (by kernel_rfl) rfl (qg_runs (rv_loadS 1 rfl rfl rfl rfl)) rfl ?_ | refine GE.q 4 rfl (by kernel_rfl) rfl (qg_runs (rv_loadS 2 rfl rfl rfl rfl)) rfl ?_ | refine GE.q 4 rfl (by kernel_rfl) rfl (qg_runs (rv_loadES rfl (by first | exact Rd.stays (by assumption) | exact Rd.owned 0 rfl | exact Rd.owned 1 rfl | exact Rd.owned 2 rfl) (by assumption) rfl rfl)) rfl ?_)
  refine GE.q 5 rfl (by kernel_rfl) rfl (qg_call rfl rfl (fun w _ => toSpot_any _ w)) rfl ?_
  refine GE.q 6 rfl (by kernel_rfl) rfl (qg_call rfl rfl (fun w _ => within_any _ _ _ w)) rfl ?_
  refine GE.q 7 rfl (by kernel_rfl) rfl (qg_runs (rv_assign rfl)) rfl ?_
  refine GE.done (by kernel_rfl) ?_
  refine G.thenN ?_
  refine G.seq ?_
  refine G.seq ?_
  refine G.region ?_
  refine G.v (rv_move rfl) rfl ?_
  refine G.v (rv_move rfl) rfl ?_
  refine G.v (rv_neqb rfl rfl) rfl ?_
  refine G.done ?_
  refine G.thenN ?_
  refine G.cond rfl (fun hc => ?_) (fun hc => ?_)
  · try exact Bool.noConfusion hc
    all_goals
     try replace hc := of_decide_eq_true hc
     try (exfalso; first | contradiction | omega)
     all_goals
      refine G.seq ?_
      refine G.region ?_
      refine G.v (rv_assign rfl) rfl ?_
      refine G.done ?_
      refine G.thenN ?_
      refine G.ret ?_
      refine G.thenR ?_
      first | exact G.retFV rfl rfl rfl | (exfalso; simp at hc)
  · try exact Bool.noConfusion hc
    all_goals
     try replace hc := of_decide_eq_false hc
     try (exfalso; first | contradiction | omega)
     all_goals
      refine G.skip ?_
      refine G.thenN ?_
      refine G.seq ?_
      refine G.region ?_
      refine G.v (rv_assign rfl) rfl ?_
      refine G.done ?_
      refine G.thenN ?_
      refine G.ret ?_
      first | exact G.retFV rfl rfl rfl | (exfalso; simp at hc)
end Go.Proofs.Ytihgahmdofpfmaa
