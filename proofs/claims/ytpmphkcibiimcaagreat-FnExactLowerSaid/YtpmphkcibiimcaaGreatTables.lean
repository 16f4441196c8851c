/-
  Tables, that is lists of things with a list each: copied and compared.
-/
import Derived.Test.YtpmphkcibiimcaaGreatInts
namespace Go.Proofs.YtpmphkcibiimcaaGreat
open Go.RowKit
attribute [local irreducible] Go.wpList Go.Code.wp Go.Exit.then Go.Exit.inBlock Go.bodyPost Go.Calls pE pB G RunsV FnV Fn FnM
set_option maxRecDepth 100000



theorem szCarton_any (a : CartonM × Value) (left : Int) (w : World) (h : Rd w a.2 1 (a.1.l.map icell)) (h0 : 0 ≤ left) (h1 : left ≤ 1048576) : FnV Tryz.prog 8 [.agg (CartonM.cells a).toArray, .int .i64 left] w (.int .i64 (szM a.1.l.length left)) := by
  refine FnV.of (n := 12) Tryz.func8 rfl rfl ?_
  refine G.seq ?_
  refine G.region ?_
  refine G.op (og_box rfl rfl) rfl (fun bk2 _ => ?_)
  refine G.v (rv_assign rfl) rfl ?_
  refine G.done ?_
  refine G.thenN ?_
  refine G.seq ?_
  refine G.region ?_
  (first | refine G.v (rv_field rfl) rfl ?_ | refine G.v (rv_fieldE rfl) rfl ?_)
  refine G.v (rv_load1 0 rfl rfl rfl) rfl ?_
  refine G.v (rv_move rfl) rfl ?_
  refine G.op (og_callV rfl rfl (fun w hh => szIntS_any _ w (by first | exact Rd.stays (by assumption) _ hh | exact Rd.owned 0 rfl _ hh | exact Rd.owned 1 rfl _ hh | exact Rd.owned 2 rfl _ hh | exact Rd.owned 3 rfl _ hh | exact Rd.owned 4 rfl _ hh | exact Rd.owned 5 rfl _ hh | exact Rd.owned 6 rfl _ hh | exact Rd.owned 7 rfl _ hh | exact Rd.owned 8 rfl _ hh | exact Rd.owned 9 rfl _ hh | exact Rd.owned 10 rfl _ hh | exact Rd.owned 11 rfl _ hh | exact Rd.owned 12 rfl _ hh | exact Rd.owned 13 rfl _ hh | exact Rd.owned 14 rfl _ hh | exact Rd.owned 15 rfl _ hh) (by (try simp only [szM] at *); omega) (by (try simp only [szM] at *); omega))) rfl (fun _ _ => ?_)
  refine G.v (rv_assign rfl) rfl ?_
  refine G.done ?_
  refine G.thenN ?_
  refine G.seq ?_
  refine G.seq ?_
  refine G.region ?_
  refine G.v (rv_move rfl) rfl ?_
  refine G.v (rv_lss rfl rfl) rfl ?_
  refine G.done ?_
  refine G.thenN ?_
  refine G.cond rfl (fun hc => ?_) (fun hc => ?_)
  · try exact Bool.noConfusion hc
    all_goals
     try replace hc := of_decide_eq_true hc
     try (exfalso; first | contradiction | omega)
     all_goals
      refine G.seq ?_
      refine G.region ?_
      refine G.v (rv_assign rfl) rfl ?_
      refine G.done ?_
      refine G.thenN ?_
      refine G.ret ?_
      refine G.thenR ?_
      exact G.retFV rfl rfl (congrArg (Value.int .i64) (by simp only [szM] at * <;> omega))
  · try exact Bool.noConfusion hc
    all_goals
     try replace hc := of_decide_eq_false hc
     try (exfalso; first | contradiction | omega)
     all_goals
      refine G.skip ?_
      refine G.thenN ?_
      refine G.seq ?_
      refine G.region ?_
      refine G.v (rv_move rfl) rfl ?_
      refine G.v (rv_assign rfl) rfl ?_
      refine G.done ?_
      refine G.thenN ?_
      refine G.ret ?_
      exact G.retFV rfl rfl (congrArg (Value.int .i64) (by simp only [szM] at * <;> omega))
theorem toCarton_any (a : CartonM × Value) (w : World) (h : Rd w a.2 1 (a.1.l.map icell)) (hl : a.1.l.length ≤ 1048576) : Fn Tryz.prog 11 [.agg (CartonM.cells a).toArray] w (fun v : Value => v.oneCell' = true) (fun v => .agg (CartonM.cells (a.1, v)).toArray) (fun v => [.row v 3 1 (a.1.l.map icell)]) := by
  refine Fn.of (n := 15) Tryz.func11 rfl rfl ?_
  refine G.seq ?_
  refine G.region ?_
  refine G.op (og_box rfl rfl) rfl (fun bk1 _ => ?_)
  refine G.op (og_alloc) rfl (fun bk2 _ => ?_)
  refine G.done ?_
  refine G.thenN ?_
  refine G.seq ?_
  refine G.region ?_
  refine G.op (og_alloc) rfl (fun bk3 _ => ?_)
  refine G.done ?_
  refine G.thenN ?_
  refine G.seq ?_
  refine G.region ?_
  (first | refine G.v (rv_field rfl) rfl ?_ | refine G.v (rv_fieldE rfl) rfl ?_)
  (first | refine G.v (rv_load1 0 rfl rfl rfl) rfl ?_ | refine G.v (rv_load1 1 rfl rfl rfl) rfl ?_ | refine G.v (rv_load1 2 rfl rfl rfl) rfl ?_ | refine G.v (rv_load1 3 rfl rfl rfl) rfl ?_)
  (first | refine G.v (rv_field rfl) rfl ?_ | refine G.v (rv_fieldE rfl) rfl ?_)
  (first | refine G.op0 (og_st0 rfl rfl rfl rfl rfl rfl (.zero (.cons .nil))) (fun _ _ => ?_) | refine G.op0 (og_st1 rfl rfl rfl rfl rfl rfl (.zero (.cons .nil))) (fun _ _ => ?_) | refine G.op0 (og_st2 rfl rfl rfl rfl rfl rfl (.zero (.cons .nil))) (fun _ _ => ?_) | refine G.op0 (og_st3 rfl rfl rfl rfl rfl rfl (.zero (.cons .nil))) (fun _ _ => ?_))
  refine G.done ?_
  refine G.thenN ?_
  refine G.seq ?_
  refine G.region ?_
  (first | refine G.v (rv_field rfl) rfl ?_ | refine G.v (rv_fieldE rfl) rfl ?_)
  (first | refine G.v (rv_load1 0 rfl rfl rfl) rfl ?_ | refine G.v (rv_load1 1 rfl rfl rfl) rfl ?_ | refine G.v (rv_load1 2 rfl rfl rfl) rfl ?_ | refine G.v (rv_load1 3 rfl rfl rfl) rfl ?_)
  (first | refine G.v (rv_field rfl) rfl ?_ | refine G.v (rv_fieldE rfl) rfl ?_)
  (first | refine G.op0 (og_st0 rfl rfl rfl rfl rfl rfl (.succ (.zero (.cons .nil)))) (fun _ _ => ?_) | refine G.op0 (og_st1 rfl rfl rfl rfl rfl rfl (.succ (.zero (.cons .nil)))) (fun _ _ => ?_) | refine G.op0 (og_st2 rfl rfl rfl rfl rfl rfl (.succ (.zero (.cons .nil)))) (fun _ _ => ?_) | refine G.op0 (og_st3 rfl rfl rfl rfl rfl rfl (.succ (.zero (.cons .nil)))) (fun _ _ => ?_))
  refine G.done ?_
  refine G.thenN ?_
  refine G.seq ?_
  refine G.region ?_
  (first | refine G.v (rv_field rfl) rfl ?_ | refine G.v (rv_fieldE rfl) rfl ?_)
  (first | refine G.v (rv_load1 0 rfl rfl rfl) rfl ?_ | refine G.v (rv_load1 1 rfl rfl rfl) rfl ?_ | refine G.v (rv_load1 2 rfl rfl rfl) rfl ?_ | refine G.v (rv_load1 3 rfl rfl rfl) rfl ?_)
  (first | (refine G.op (og_callF1 rfl rfl (fun w hh => toIntS_any w (by first | exact Rd.stays (by assumption) _ hh | exact Rd.owned 0 rfl _ hh | exact Rd.owned 1 rfl _ hh | exact Rd.owned 2 rfl _ hh | exact Rd.owned 3 rfl _ hh | exact Rd.owned 4 rfl _ hh | exact Rd.owned 5 rfl _ hh | exact Rd.owned 6 rfl _ hh | exact Rd.owned 7 rfl _ hh | exact Rd.owned 8 rfl _ hh | exact Rd.owned 9 rfl _ hh | exact Rd.owned 10 rfl _ hh | exact Rd.owned 11 rfl _ hh | exact Rd.owned 12 rfl _ hh | exact Rd.owned 13 rfl _ hh | exact Rd.owned 14 rfl _ hh | exact Rd.owned 15 rfl _ hh) (by (try simp only [szM] at *); omega))) rfl ?_; rintro v hov; try dsimp only) | (refine G.op (og_callF2 rfl rfl (fun w hh => toIntS_any w (by first | exact Rd.stays (by assumption) _ hh | exact Rd.owned 0 rfl _ hh | exact Rd.owned 1 rfl _ hh | exact Rd.owned 2 rfl _ hh | exact Rd.owned 3 rfl _ hh | exact Rd.owned 4 rfl _ hh | exact Rd.owned 5 rfl _ hh | exact Rd.owned 6 rfl _ hh | exact Rd.owned 7 rfl _ hh | exact Rd.owned 8 rfl _ hh | exact Rd.owned 9 rfl _ hh | exact Rd.owned 10 rfl _ hh | exact Rd.owned 11 rfl _ hh | exact Rd.owned 12 rfl _ hh | exact Rd.owned 13 rfl _ hh | exact Rd.owned 14 rfl _ hh | exact Rd.owned 15 rfl _ hh) (by (try simp only [szM] at *); omega))) rfl ?_; rintro v hov; try dsimp only) | (refine G.op (og_callF3 rfl rfl (fun w hh => toIntS_any w (by first | exact Rd.stays (by assumption) _ hh | exact Rd.owned 0 rfl _ hh | exact Rd.owned 1 rfl _ hh | exact Rd.owned 2 rfl _ hh | exact Rd.owned 3 rfl _ hh | exact Rd.owned 4 rfl _ hh | exact Rd.owned 5 rfl _ hh | exact Rd.owned 6 rfl _ hh | exact Rd.owned 7 rfl _ hh | exact Rd.owned 8 rfl _ hh | exact Rd.owned 9 rfl _ hh | exact Rd.owned 10 rfl _ hh | exact Rd.owned 11 rfl _ hh | exact Rd.owned 12 rfl _ hh | exact Rd.owned 13 rfl _ hh | exact Rd.owned 14 rfl _ hh | exact Rd.owned 15 rfl _ hh) (by (try simp only [szM] at *); omega))) rfl ?_; rintro v hov; try dsimp only) | (refine G.op (og_callF0 rfl rfl (fun w hh => toIntS_any w (by first | exact Rd.stays (by assumption) _ hh | exact Rd.owned 0 rfl _ hh | exact Rd.owned 1 rfl _ hh | exact Rd.owned 2 rfl _ hh | exact Rd.owned 3 rfl _ hh | exact Rd.owned 4 rfl _ hh | exact Rd.owned 5 rfl _ hh | exact Rd.owned 6 rfl _ hh | exact Rd.owned 7 rfl _ hh | exact Rd.owned 8 rfl _ hh | exact Rd.owned 9 rfl _ hh | exact Rd.owned 10 rfl _ hh | exact Rd.owned 11 rfl _ hh | exact Rd.owned 12 rfl _ hh | exact Rd.owned 13 rfl _ hh | exact Rd.owned 14 rfl _ hh | exact Rd.owned 15 rfl _ hh) (by (try simp only [szM] at *); omega))) rfl ?_; rintro v hov; try dsimp only) | (refine G.op (og_callF rfl rfl (fun w hh => toIntS_any w (by first | exact Rd.stays (by assumption) _ hh | exact Rd.owned 0 rfl _ hh | exact Rd.owned 1 rfl _ hh | exact Rd.owned 2 rfl _ hh | exact Rd.owned 3 rfl _ hh | exact Rd.owned 4 rfl _ hh | exact Rd.owned 5 rfl _ hh | exact Rd.owned 6 rfl _ hh | exact Rd.owned 7 rfl _ hh | exact Rd.owned 8 rfl _ hh | exact Rd.owned 9 rfl _ hh | exact Rd.owned 10 rfl _ hh | exact Rd.owned 11 rfl _ hh | exact Rd.owned 12 rfl _ hh | exact Rd.owned 13 rfl _ hh | exact Rd.owned 14 rfl _ hh | exact Rd.owned 15 rfl _ hh) (by (try simp only [szM] at *); omega))) rfl ?_; rintro v hov; try dsimp only))
  (first | refine G.v (rv_field rfl) rfl ?_ | refine G.v (rv_fieldE rfl) rfl ?_)
  (first | refine G.op0 (og_st0 rfl rfl rfl (cells_one (by first | rfl | assumption)) rfl (by repeat (first | rfl | refine one_cons (by first | rfl | assumption) ?_)) (.succ (.succ (.zero (.cons .nil))))) (fun _ _ => ?_) | refine G.op0 (og_st1 rfl rfl rfl (cells_one (by first | rfl | assumption)) rfl (by repeat (first | rfl | refine one_cons (by first | rfl | assumption) ?_)) (.succ (.succ (.zero (.cons .nil))))) (fun _ _ => ?_) | refine G.op0 (og_st2 rfl rfl rfl (cells_one (by first | rfl | assumption)) rfl (by repeat (first | rfl | refine one_cons (by first | rfl | assumption) ?_)) (.succ (.succ (.zero (.cons .nil))))) (fun _ _ => ?_) | refine G.op0 (og_st3 rfl rfl rfl (cells_one (by first | rfl | assumption)) rfl (by repeat (first | rfl | refine one_cons (by first | rfl | assumption) ?_)) (.succ (.succ (.zero (.cons .nil))))) (fun _ _ => ?_))
  refine G.done ?_
  refine G.thenN ?_
  refine G.seq ?_
  refine G.region ?_
  (first | refine G.v (rv_loadW 0 rfl rfl rfl) rfl ?_ | refine G.v (rv_loadW 1 rfl rfl rfl) rfl ?_ | refine G.v (rv_loadW 2 rfl rfl rfl) rfl ?_ | refine G.v (rv_loadW 3 rfl rfl rfl) rfl ?_ | refine G.v (rv_loadP 0 rfl rfl (.one (.one (.one .nil)))) rfl ?_ | refine G.v (rv_loadP 1 rfl rfl (.one (.one (.one .nil)))) rfl ?_ | refine G.v (rv_loadP 2 rfl rfl (.one (.one (.one .nil)))) rfl ?_ | refine G.v (rv_loadP 3 rfl rfl (.one (.one (.one .nil)))) rfl ?_)
  (first | refine G.op0 (og_st0 rfl rfl rfl rfl rfl (by repeat (first | rfl | refine one_cons (by first | rfl | assumption) ?_)) (.zero (.cons (.cons (.cons .nil))))) (fun _ _ => ?_) | refine G.op0 (og_st1 rfl rfl rfl rfl rfl (by repeat (first | rfl | refine one_cons (by first | rfl | assumption) ?_)) (.zero (.cons (.cons (.cons .nil))))) (fun _ _ => ?_) | refine G.op0 (og_st2 rfl rfl rfl rfl rfl (by repeat (first | rfl | refine one_cons (by first | rfl | assumption) ?_)) (.zero (.cons (.cons (.cons .nil))))) (fun _ _ => ?_) | refine G.op0 (og_st3 rfl rfl rfl rfl rfl (by repeat (first | rfl | refine one_cons (by first | rfl | assumption) ?_)) (.zero (.cons (.cons (.cons .nil))))) (fun _ _ => ?_))
  refine G.done ?_
  refine G.thenN ?_
  refine G.ret ?_
  exact G.retFc v hov 2 rfl rfl rfl rfl rfl (fun w hh => hh.pick [0] rfl)
theorem eqCarton_any (a b : CartonM × Value) (w : World) (h : Rd w a.2 1 (a.1.l.map icell)) (h2 : Rd w b.2 1 (b.1.l.map icell)) : FnV Tryz.prog 15 [.agg (CartonM.cells a).toArray, .agg (CartonM.cells b).toArray] w (.bool (decide (a.1 = b.1))) := by
  have hx := CartonM.eq_iff
  obtain ⟨a, va⟩ := a
  obtain ⟨b, vb⟩ := b
  refine FnV.of (n := 21) Tryz.func15 rfl rfl ?_
  refine G.seq ?_
  refine G.region ?_
  refine G.op (og_box rfl rfl) rfl (fun bk2 _ => ?_)
  refine G.op (og_box rfl rfl) rfl (fun bk3 _ => ?_)
  refine G.v (rv_assign rfl) rfl ?_
  refine G.done ?_
  refine G.thenN ?_
  refine G.seq ?_
  refine G.seq ?_
  refine G.region ?_
  (first | refine G.v (rv_field rfl) rfl ?_ | refine G.v (rv_fieldE rfl) rfl ?_)
  (first | refine G.v (rv_load1 0 rfl rfl rfl) rfl ?_ | refine G.v (rv_load1 1 rfl rfl rfl) rfl ?_)
  (first | refine G.v (rv_field rfl) rfl ?_ | refine G.v (rv_fieldE rfl) rfl ?_)
  (first | refine G.v (rv_load1 0 rfl rfl rfl) rfl ?_ | refine G.v (rv_load1 1 rfl rfl rfl) rfl ?_)
  refine G.v (rv_neq rfl rfl) rfl ?_
  refine G.done ?_
  refine G.thenN ?_
  refine G.cond rfl (fun hc => ?_) (fun hc => ?_)
  · try exact Bool.noConfusion hc
    all_goals
     try replace hc := of_decide_eq_true hc
     try (exfalso; first | contradiction | omega)
     all_goals
      refine G.seq ?_
      refine G.region ?_
      refine G.v (rv_assign rfl) rfl ?_
      refine G.done ?_
      refine G.thenN ?_
      refine G.ret ?_
      refine G.thenR ?_
      refine G.retFV rfl rfl (congrArg Value.bool ?_); simp_all
  · try exact Bool.noConfusion hc
    all_goals
     try replace hc := of_decide_eq_false hc
     try (exfalso; first | contradiction | omega)
     all_goals
      refine G.skip ?_
      refine G.thenN ?_
      refine G.seq ?_
      refine G.seq ?_
      refine G.region ?_
      (first | refine G.v (rv_field rfl) rfl ?_ | refine G.v (rv_fieldE rfl) rfl ?_)
      (first | refine G.v (rv_load1 0 rfl rfl rfl) rfl ?_ | refine G.v (rv_load1 1 rfl rfl rfl) rfl ?_)
      (first | refine G.v (rv_field rfl) rfl ?_ | refine G.v (rv_fieldE rfl) rfl ?_)
      (first | refine G.v (rv_load1 0 rfl rfl rfl) rfl ?_ | refine G.v (rv_load1 1 rfl rfl rfl) rfl ?_)
      refine G.v (rv_neq rfl rfl) rfl ?_
      refine G.done ?_
      refine G.thenN ?_
      refine G.cond rfl (fun hc => ?_) (fun hc => ?_)
      · try exact Bool.noConfusion hc
        all_goals
         try replace hc := of_decide_eq_true hc
         try (exfalso; first | contradiction | omega)
         all_goals
          refine G.seq ?_
          refine G.region ?_
          refine G.v (rv_assign rfl) rfl ?_
          refine G.done ?_
          refine G.thenN ?_
          refine G.ret ?_
          refine G.thenR ?_
          refine G.retFV rfl rfl (congrArg Value.bool ?_); simp_all
      · try exact Bool.noConfusion hc
        all_goals
         try replace hc := of_decide_eq_false hc
         try (exfalso; first | contradiction | omega)
         all_goals
          refine G.skip ?_
          refine G.thenN ?_
          refine G.seq ?_
          refine G.seq ?_
          refine G.region ?_
          (first | refine G.v (rv_field rfl) rfl ?_ | refine G.v (rv_fieldE rfl) rfl ?_)
          (first | refine G.v (rv_load1 0 rfl rfl rfl) rfl ?_ | refine G.v (rv_load1 1 rfl rfl rfl) rfl ?_)
          (first | refine G.v (rv_field rfl) rfl ?_ | refine G.v (rv_fieldE rfl) rfl ?_)
          (first | refine G.v (rv_load1 0 rfl rfl rfl) rfl ?_ | refine G.v (rv_load1 1 rfl rfl rfl) rfl ?_)
          refine G.op (og_callV rfl rfl (fun w hh => eqIntS_any w (by first | exact Rd.stays (by assumption) _ hh | exact Rd.owned 0 rfl _ hh | exact Rd.owned 1 rfl _ hh | exact Rd.owned 2 rfl _ hh | exact Rd.owned 3 rfl _ hh | exact Rd.owned 4 rfl _ hh | exact Rd.owned 5 rfl _ hh | exact Rd.owned 6 rfl _ hh | exact Rd.owned 7 rfl _ hh | exact Rd.owned 8 rfl _ hh | exact Rd.owned 9 rfl _ hh | exact Rd.owned 10 rfl _ hh | exact Rd.owned 11 rfl _ hh | exact Rd.owned 12 rfl _ hh | exact Rd.owned 13 rfl _ hh | exact Rd.owned 14 rfl _ hh | exact Rd.owned 15 rfl _ hh) (by first | exact Rd.stays (by assumption) _ hh | exact Rd.owned 0 rfl _ hh | exact Rd.owned 1 rfl _ hh | exact Rd.owned 2 rfl _ hh | exact Rd.owned 3 rfl _ hh | exact Rd.owned 4 rfl _ hh | exact Rd.owned 5 rfl _ hh | exact Rd.owned 6 rfl _ hh | exact Rd.owned 7 rfl _ hh | exact Rd.owned 8 rfl _ hh | exact Rd.owned 9 rfl _ hh | exact Rd.owned 10 rfl _ hh | exact Rd.owned 11 rfl _ hh | exact Rd.owned 12 rfl _ hh | exact Rd.owned 13 rfl _ hh | exact Rd.owned 14 rfl _ hh | exact Rd.owned 15 rfl _ hh))) rfl (fun _ _ => ?_)
          refine G.v (rv_not rfl) rfl ?_
          refine G.done ?_
          refine G.thenN ?_
          refine G.cond rfl (fun hc => ?_) (fun hc => ?_)
          · try exact Bool.noConfusion hc
            all_goals
             try replace hc := of_decide_eq_true hc
             try (exfalso; first | contradiction | omega)
             all_goals
              refine G.seq ?_
              refine G.region ?_
              refine G.v (rv_assign rfl) rfl ?_
              refine G.done ?_
              refine G.thenN ?_
              refine G.ret ?_
              refine G.thenR ?_
              refine G.retFV rfl rfl (congrArg Value.bool ?_); simp_all
          · try exact Bool.noConfusion hc
            all_goals
             try replace hc := of_decide_eq_false hc
             try (exfalso; first | contradiction | omega)
             all_goals
              refine G.skip ?_
              refine G.thenN ?_
              refine G.seq ?_
              refine G.region ?_
              refine G.v (rv_assign rfl) rfl ?_
              refine G.done ?_
              refine G.thenN ?_
              refine G.ret ?_
              refine G.retFV rfl rfl (congrArg Value.bool ?_); simp_all


end Go.Proofs.YtpmphkcibiimcaaGreat
