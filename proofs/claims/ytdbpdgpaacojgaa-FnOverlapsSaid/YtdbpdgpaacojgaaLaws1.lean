/-
  The laws of what is within, and of what overlaps.
-/
import Derived.Test.YtdbpdgpaacojgaaDraws
namespace Go.Proofs.Ytdbpdgpaacojgaa
open Go.RowKit
theorem within_more {p1 p2 p3 p4 b1 b2 b3 b4 s1 s2 s3 s4 : Int} (h : withinM ⟨p1, p2, p3, p4⟩ ⟨b1, b2, b3, b4⟩ ⟨s1, s2, s3, s4⟩ = true) (h1 : 6 ≤ p1) (h2 : p1 ≤ 8) :
    withinM ⟨IntKind.i64.wrap (p1 + 1), p2, p3, p4⟩ ⟨b1, b2, b3, b4⟩ ⟨s1, s2, s3, s4⟩ = true ∧ withinM ⟨p1, p2, p3, p4⟩ ⟨b1, b2, b3, b4⟩ ⟨s1, IntKind.i64.wrap (p1 - b1), s3, s4⟩ = true ∧
    withinM ⟨p1, p2, p3, p4⟩ ⟨b1, b2, b3, b4⟩ ⟨s1, IntKind.i64.wrap (IntKind.i64.wrap (p1 - b1) + 1), s3, s4⟩ = false ∧
    withinM ⟨IntKind.i64.wrap (p1 + 1), p2, p3, p4⟩ ⟨b1, b2, b3, b4⟩ ⟨s1, IntKind.i64.wrap (IntKind.i64.wrap (p1 - b1) + 1), s3, s4⟩ = true := by
  simp only [withinM, inB, Bool.and_eq_true, decide_eq_true_eq] at h
  obtain ⟨⟨⟨⟨⟨⟨⟨⟨a, b⟩, c⟩, d, d'⟩, e, e'⟩, f, f'⟩, g⟩, i⟩, j⟩ := h
  rw [wrap_id (z := s2 + b1) (by omega) (by omega)] at g
  rw [wrap_id (z := p1 + 1) (by omega) (by omega), wrap_id (z := p1 - b1) (by omega) (by omega), wrap_id (z := p1 - b1 + 1) (by omega) (by omega)]
  refine ⟨?_, ?_, ?_, ?_⟩
  · simp only [withinM, inB, Bool.and_eq_true, decide_eq_true_eq]
    rw [wrap_id (z := s2 + b1) (by omega) (by omega)]
    exact ⟨⟨⟨⟨⟨⟨⟨⟨a, b⟩, c⟩, d, d'⟩, e, e'⟩, f, f'⟩, by omega⟩, i⟩, j⟩
  · simp only [withinM, inB, Bool.and_eq_true, decide_eq_true_eq]
    rw [wrap_id (z := p1 - b1 + b1) (by omega) (by omega)]
    exact ⟨⟨⟨⟨⟨⟨⟨⟨⟨by omega, by omega⟩, b⟩, c⟩, d, d'⟩, e, e'⟩, f, f'⟩, by omega⟩, i⟩, j⟩
  · have hn : ¬ p1 - b1 + 1 + b1 ≤ p1 := by omega
    simp only [withinM]
    rw [wrap_id (z := p1 - b1 + 1 + b1) (by omega) (by omega), decide_eq_false hn]
    simp
  · simp only [withinM, inB, Bool.and_eq_true, decide_eq_true_eq]
    rw [wrap_id (z := p1 - b1 + 1 + b1) (by omega) (by omega)]
    exact ⟨⟨⟨⟨⟨⟨⟨⟨⟨by omega, by omega⟩, b⟩, c⟩, d, d'⟩, e, e'⟩, f, f'⟩, by omega⟩, i⟩, j⟩
theorem bnot_false {b : Bool} (h : (!b) = false) : b = true := by cases b <;> simp_all
theorem not_lt1 {z : Int} (h : decide (z < 1) = false) : 1 ≤ z := by have := of_decide_eq_false h; omega
theorem cross_comm (a l b o : Int) : crossM a l b o = crossM b o a l := by simp only [crossM]; exact Bool.and_comm _ _
theorem overlap_comm (a : BoxM) (s : SpotM) (b : BoxM) (t : SpotM) : overlapM a s b t = overlapM b t a s := by
  simp only [overlapM, cross_comm s.x a.w, cross_comm s.y a.d, cross_comm s.z a.h, Bool.and_comm (placedM a s)]
  rw [show decide (s.p = t.p) = decide (t.p = s.p) from decide_eq_decide.2 ⟨Eq.symm, Eq.symm⟩]
theorem cross_point {a l b o : Int} (h : crossM a l b o = true) (h0 : 0 ≤ a) (h1 : a ≤ 2000) (h2 : 0 ≤ b) (h3 : b ≤ 2000) (h4 : 1 ≤ l) (h5 : l ≤ 2000) (h6 : 1 ≤ o) (h7 : o ≤ 2000) : crossM (max a b) 1 a l = true ∧ crossM (max a b) 1 b o = true := by
  simp only [crossM, Bool.and_eq_true, decide_eq_true_eq] at *
  rw [wrap_id (z := b + o) (by omega) (by omega), wrap_id (z := a + l) (by omega) (by omega)] at h
  rw [wrap_id (z := a + l) (by omega) (by omega), wrap_id (z := b + o) (by omega) (by omega), wrap_id (z := max a b + 1) (by omega) (by omega)]
  omega
theorem overlap_point {a1 a2 a3 a4 s1 s2 s3 s4 b1 b2 b3 b4 t1 t2 t3 t4 : Int} (h : overlapM ⟨a1, a2, a3, a4⟩ ⟨s1, s2, s3, s4⟩ ⟨b1, b2, b3, b4⟩ ⟨t1, t2, t3, t4⟩ = true) (h1 : 1 ≤ a1) (h2 : 1 ≤ a2) (h3 : 1 ≤ a3) (h4 : 1 ≤ b1) (h5 : 1 ≤ b2) (h6 : 1 ≤ b3) :
    overlapM ⟨1, 1, 1, 0⟩ ⟨s1, max s2 t2, max s3 t3, max s4 t4⟩ ⟨a1, a2, a3, a4⟩ ⟨s1, s2, s3, s4⟩ = true ∧ overlapM ⟨1, 1, 1, 0⟩ ⟨s1, max s2 t2, max s3 t3, max s4 t4⟩ ⟨b1, b2, b3, b4⟩ ⟨t1, t2, t3, t4⟩ = true := by
  simp only [overlapM, placedM, inB, Bool.and_eq_true, decide_eq_true_eq] at h
  obtain ⟨⟨⟨⟨⟨⟨⟨⟨⟨⟨aw, ad⟩, ah⟩, sx⟩, sy⟩, sz⟩, ⟨⟨⟨⟨bw, bd⟩, bh⟩, tx⟩, ty⟩, tz⟩, pq⟩, c1⟩, c2⟩, c3⟩ := h
  have k1 := cross_point c1 sx.1 sx.2 tx.1 tx.2 h1 aw.2 h4 bw.2
  have k2 := cross_point c2 sy.1 sy.2 ty.1 ty.2 h2 ad.2 h5 bd.2
  have k3 := cross_point c3 sz.1 sz.2 tz.1 tz.2 h3 ah.2 h6 bh.2
  subst pq
  simp only [overlapM, placedM, inB, Bool.and_eq_true, decide_eq_true_eq, k1, k2, k3]
  refine ⟨?_, ?_⟩ <;> (refine ⟨⟨⟨⟨⟨⟨⟨⟨⟨⟨?_, ?_⟩, ?_⟩, ?_⟩, ?_⟩, ?_⟩, ⟨⟨⟨⟨?_, ?_⟩, ?_⟩, ?_⟩, ?_⟩, ?_⟩, trivial⟩, trivial⟩, trivial⟩, trivial⟩ <;> omega)
attribute [local irreducible] Go.wpList Go.Code.wp Go.Exit.then Go.Exit.inBlock Go.bodyPost Go.Calls pE pB G RunsV FnV Fn FnM
set_option maxRecDepth 100000
set_option maxHeartbeats 4000000
theorem fnWithin_any {v : Value} {l : List Int} {w : World} (h : Rd w v 1 (l.map bcell)) : FnV Try.prog 3 [v] w (.bool true) := by
  refine FnV.of (n := 70) Try.func3 rfl rfl ?_
  refine G.seq ?_
  refine G.region ?_
  refine G.v (rv_assign rfl) rfl ?_
  refine G.done ?_
  refine G.thenN ?_
  refine G.seq ?_
  refine G.seq ?_
  refine G.region ?_
  refine G.v (rv_move rfl) rfl ?_
  refine G.op (og_callV rfl rfl (fun w hh => big_any w (by first | exact Rd.stays (by assumption) _ hh | exact Rd.owned 0 rfl _ hh | exact Rd.owned 1 rfl _ hh | exact Rd.owned 2 rfl _ hh | exact Rd.owned 3 rfl _ hh))) rfl (fun _ _ => ?_)
  refine G.done ?_
  refine G.thenN ?_
  refine G.cond rfl (fun hc => ?_) (fun hc => ?_)
  · try exact Bool.noConfusion hc
    all_goals
     try replace hc := of_decide_eq_true hc
     try (exfalso; first | contradiction | omega)
     all_goals
      refine G.seq ?_
      refine G.region ?_
      refine G.v (rv_assign rfl) rfl ?_
      refine G.done ?_
      refine G.thenN ?_
      refine G.ret ?_
      refine G.thenR ?_
      first | exact G.retFV rfl rfl rfl | (exfalso; simp at hc; done) | (have hwm := within_more (by simpa using hc) hpw.1 hpw.2; exact G.retFV rfl rfl (congrArg Value.bool hwm.2.2.2)) | (exfalso; have hwm := within_more (by simpa using hc) hpw.1 hpw.2; simp_all; done)
  · try exact Bool.noConfusion hc
    all_goals
     try replace hc := of_decide_eq_false hc
     try (exfalso; first | contradiction | omega)
     all_goals
      refine G.skip ?_
      refine G.thenN ?_
      refine G.seq ?_
      refine G.region ?_
      refine G.v (rv_move rfl) rfl ?_
      (refine G.op (og_callF0 rfl rfl (fun w hh => drawWithin_any w (by first | exact Rd.stays (by assumption) _ hh | exact Rd.owned 0 rfl _ hh | exact Rd.owned 1 rfl _ hh | exact Rd.owned 2 rfl _ hh | exact Rd.owned 3 rfl _ hh))) rfl ?_; rintro ⟨⟨p1, p2, p3, p4⟩, ⟨b1, b2, b3, b4⟩, ⟨s1, s2, s3, s4⟩⟩ hpw; try dsimp only [BoxM.val, BoxM.cells, SpotM.val, SpotM.cells, PalletM.val, PalletM.cells])
      refine G.v (rv_move rfl) rfl ?_
      refine G.v (rv_extract rfl rfl) rfl ?_
      refine G.v (rv_extract rfl rfl) rfl ?_
      refine G.v (rv_extract rfl rfl) rfl ?_
      refine G.op (og_alloc) rfl (fun bk3 _ => ?_)
      refine G.op (og_alloc) rfl (fun bk4 _ => ?_)
      refine G.op (og_alloc) rfl (fun bk5 _ => ?_)
      (first | refine G.op0 (og_st0 rfl rfl rfl rfl rfl rfl (.zero (.cons (.cons (.cons (.cons .nil)))))) (fun _ _ => ?_) | refine G.op0 (og_st1 rfl rfl rfl rfl rfl rfl (.zero (.cons (.cons (.cons (.cons .nil)))))) (fun _ _ => ?_) | refine G.op0 (og_st2 rfl rfl rfl rfl rfl rfl (.zero (.cons (.cons (.cons (.cons .nil)))))) (fun _ _ => ?_) | refine G.op0 (og_st3 rfl rfl rfl rfl rfl rfl (.zero (.cons (.cons (.cons (.cons .nil)))))) (fun _ _ => ?_) | refine G.op0 (og_st4 rfl rfl rfl rfl rfl rfl (.zero (.cons (.cons (.cons (.cons .nil)))))) (fun _ _ => ?_) | refine G.op0 (og_st5 rfl rfl rfl rfl rfl rfl (.zero (.cons (.cons (.cons (.cons .nil)))))) (fun _ _ => ?_))
      (first | refine G.op0 (og_st0 rfl rfl rfl rfl rfl rfl (.zero (.cons (.cons (.cons (.cons .nil)))))) (fun _ _ => ?_) | refine G.op0 (og_st1 rfl rfl rfl rfl rfl rfl (.zero (.cons (.cons (.cons (.cons .nil)))))) (fun _ _ => ?_) | refine G.op0 (og_st2 rfl rfl rfl rfl rfl rfl (.zero (.cons (.cons (.cons (.cons .nil)))))) (fun _ _ => ?_) | refine G.op0 (og_st3 rfl rfl rfl rfl rfl rfl (.zero (.cons (.cons (.cons (.cons .nil)))))) (fun _ _ => ?_) | refine G.op0 (og_st4 rfl rfl rfl rfl rfl rfl (.zero (.cons (.cons (.cons (.cons .nil)))))) (fun _ _ => ?_) | refine G.op0 (og_st5 rfl rfl rfl rfl rfl rfl (.zero (.cons (.cons (.cons (.cons .nil)))))) (fun _ _ => ?_))
      (first | refine G.op0 (og_st0 rfl rfl rfl rfl rfl rfl (.zero (.cons (.cons (.cons (.cons .nil)))))) (fun _ _ => ?_) | refine G.op0 (og_st1 rfl rfl rfl rfl rfl rfl (.zero (.cons (.cons (.cons (.cons .nil)))))) (fun _ _ => ?_) | refine G.op0 (og_st2 rfl rfl rfl rfl rfl rfl (.zero (.cons (.cons (.cons (.cons .nil)))))) (fun _ _ => ?_) | refine G.op0 (og_st3 rfl rfl rfl rfl rfl rfl (.zero (.cons (.cons (.cons (.cons .nil)))))) (fun _ _ => ?_) | refine G.op0 (og_st4 rfl rfl rfl rfl rfl rfl (.zero (.cons (.cons (.cons (.cons .nil)))))) (fun _ _ => ?_) | refine G.op0 (og_st5 rfl rfl rfl rfl rfl rfl (.zero (.cons (.cons (.cons (.cons .nil)))))) (fun _ _ => ?_))
      refine G.done ?_
      refine G.thenN ?_
      refine G.seq ?_
      refine G.region ?_
      (first | refine G.v (rv_loadW 0 rfl rfl rfl) rfl ?_ | refine G.v (rv_loadW 1 rfl rfl rfl) rfl ?_ | refine G.v (rv_loadW 2 rfl rfl rfl) rfl ?_ | refine G.v (rv_loadW 3 rfl rfl rfl) rfl ?_ | refine G.v (rv_loadW 4 rfl rfl rfl) rfl ?_ | refine G.v (rv_loadW 5 rfl rfl rfl) rfl ?_ | refine G.v (rv_loadP 0 rfl rfl (.one (.one (.one (.one .nil))))) rfl ?_ | refine G.v (rv_loadP 1 rfl rfl (.one (.one (.one (.one .nil))))) rfl ?_ | refine G.v (rv_loadP 2 rfl rfl (.one (.one (.one (.one .nil))))) rfl ?_ | refine G.v (rv_loadP 3 rfl rfl (.one (.one (.one (.one .nil))))) rfl ?_ | refine G.v (rv_loadP 4 rfl rfl (.one (.one (.one (.one .nil))))) rfl ?_ | refine G.v (rv_loadP 5 rfl rfl (.one (.one (.one (.one .nil))))) rfl ?_)
      (first | refine G.v (rv_loadW 0 rfl rfl rfl) rfl ?_ | refine G.v (rv_loadW 1 rfl rfl rfl) rfl ?_ | refine G.v (rv_loadW 2 rfl rfl rfl) rfl ?_ | refine G.v (rv_loadW 3 rfl rfl rfl) rfl ?_ | refine G.v (rv_loadW 4 rfl rfl rfl) rfl ?_ | refine G.v (rv_loadW 5 rfl rfl rfl) rfl ?_ | refine G.v (rv_loadP 0 rfl rfl (.one (.one (.one (.one .nil))))) rfl ?_ | refine G.v (rv_loadP 1 rfl rfl (.one (.one (.one (.one .nil))))) rfl ?_ | refine G.v (rv_loadP 2 rfl rfl (.one (.one (.one (.one .nil))))) rfl ?_ | refine G.v (rv_loadP 3 rfl rfl (.one (.one (.one (.one .nil))))) rfl ?_ | refine G.v (rv_loadP 4 rfl rfl (.one (.one (.one (.one .nil))))) rfl ?_ | refine G.v (rv_loadP 5 rfl rfl (.one (.one (.one (.one .nil))))) rfl ?_)
      (first | refine G.v (rv_loadW 0 rfl rfl rfl) rfl ?_ | refine G.v (rv_loadW 1 rfl rfl rfl) rfl ?_ | refine G.v (rv_loadW 2 rfl rfl rfl) rfl ?_ | refine G.v (rv_loadW 3 rfl rfl rfl) rfl ?_ | refine G.v (rv_loadW 4 rfl rfl rfl) rfl ?_ | refine G.v (rv_loadW 5 rfl rfl rfl) rfl ?_ | refine G.v (rv_loadP 0 rfl rfl (.one (.one (.one (.one .nil))))) rfl ?_ | refine G.v (rv_loadP 1 rfl rfl (.one (.one (.one (.one .nil))))) rfl ?_ | refine G.v (rv_loadP 2 rfl rfl (.one (.one (.one (.one .nil))))) rfl ?_ | refine G.v (rv_loadP 3 rfl rfl (.one (.one (.one (.one .nil))))) rfl ?_ | refine G.v (rv_loadP 4 rfl rfl (.one (.one (.one (.one .nil))))) rfl ?_ | refine G.v (rv_loadP 5 rfl rfl (.one (.one (.one (.one .nil))))) rfl ?_)
      refine G.op (og_callV rfl rfl (fun w _ => within_ints _ _ _ _ _ _ _ _ _ _ _ _ w)) rfl (fun _ _ => ?_)
      refine G.v (rv_assign rfl) rfl ?_
      refine G.done ?_
      refine G.thenN ?_
      refine G.seq ?_
      refine G.seq ?_
      refine G.region ?_
      refine G.v (rv_move rfl) rfl ?_
      (first | refine G.v (rv_loadW 0 rfl rfl rfl) rfl ?_ | refine G.v (rv_loadW 1 rfl rfl rfl) rfl ?_ | refine G.v (rv_loadW 2 rfl rfl rfl) rfl ?_ | refine G.v (rv_loadW 3 rfl rfl rfl) rfl ?_ | refine G.v (rv_loadW 4 rfl rfl rfl) rfl ?_ | refine G.v (rv_loadW 5 rfl rfl rfl) rfl ?_ | refine G.v (rv_loadP 0 rfl rfl (.one (.one (.one (.one .nil))))) rfl ?_ | refine G.v (rv_loadP 1 rfl rfl (.one (.one (.one (.one .nil))))) rfl ?_ | refine G.v (rv_loadP 2 rfl rfl (.one (.one (.one (.one .nil))))) rfl ?_ | refine G.v (rv_loadP 3 rfl rfl (.one (.one (.one (.one .nil))))) rfl ?_ | refine G.v (rv_loadP 4 rfl rfl (.one (.one (.one (.one .nil))))) rfl ?_ | refine G.v (rv_loadP 5 rfl rfl (.one (.one (.one (.one .nil))))) rfl ?_)
      (first | refine G.v (rv_loadW 0 rfl rfl rfl) rfl ?_ | refine G.v (rv_loadW 1 rfl rfl rfl) rfl ?_ | refine G.v (rv_loadW 2 rfl rfl rfl) rfl ?_ | refine G.v (rv_loadW 3 rfl rfl rfl) rfl ?_ | refine G.v (rv_loadW 4 rfl rfl rfl) rfl ?_ | refine G.v (rv_loadW 5 rfl rfl rfl) rfl ?_ | refine G.v (rv_loadP 0 rfl rfl (.one (.one (.one (.one .nil))))) rfl ?_ | refine G.v (rv_loadP 1 rfl rfl (.one (.one (.one (.one .nil))))) rfl ?_ | refine G.v (rv_loadP 2 rfl rfl (.one (.one (.one (.one .nil))))) rfl ?_ | refine G.v (rv_loadP 3 rfl rfl (.one (.one (.one (.one .nil))))) rfl ?_ | refine G.v (rv_loadP 4 rfl rfl (.one (.one (.one (.one .nil))))) rfl ?_ | refine G.v (rv_loadP 5 rfl rfl (.one (.one (.one (.one .nil))))) rfl ?_)
      (first | refine G.v (rv_loadW 0 rfl rfl rfl) rfl ?_ | refine G.v (rv_loadW 1 rfl rfl rfl) rfl ?_ | refine G.v (rv_loadW 2 rfl rfl rfl) rfl ?_ | refine G.v (rv_loadW 3 rfl rfl rfl) rfl ?_ | refine G.v (rv_loadW 4 rfl rfl rfl) rfl ?_ | refine G.v (rv_loadW 5 rfl rfl rfl) rfl ?_ | refine G.v (rv_loadP 0 rfl rfl (.one (.one (.one (.one .nil))))) rfl ?_ | refine G.v (rv_loadP 1 rfl rfl (.one (.one (.one (.one .nil))))) rfl ?_ | refine G.v (rv_loadP 2 rfl rfl (.one (.one (.one (.one .nil))))) rfl ?_ | refine G.v (rv_loadP 3 rfl rfl (.one (.one (.one (.one .nil))))) rfl ?_ | refine G.v (rv_loadP 4 rfl rfl (.one (.one (.one (.one .nil))))) rfl ?_ | refine G.v (rv_loadP 5 rfl rfl (.one (.one (.one (.one .nil))))) rfl ?_)
      refine G.op (og_callV rfl rfl (fun w _ => swithin_ints _ _ _ _ _ _ _ _ _ _ _ _ w)) rfl (fun _ _ => ?_)
      refine G.v (rv_neqb rfl rfl) rfl ?_
      refine G.done ?_
      refine G.thenN ?_
      refine G.cond rfl (fun hc => ?_) (fun hc => ?_)
      · try exact Bool.noConfusion hc
        all_goals
         try replace hc := of_decide_eq_true hc
         try (exfalso; first | contradiction | omega)
         all_goals
          refine G.seq ?_
          refine G.region ?_
          refine G.v (rv_assign rfl) rfl ?_
          refine G.done ?_
          refine G.thenN ?_
          refine G.ret ?_
          refine G.thenR ?_
          first | exact G.retFV rfl rfl rfl | (exfalso; simp at hc; done) | (have hwm := within_more (by simpa using hc) hpw.1 hpw.2; exact G.retFV rfl rfl (congrArg Value.bool hwm.2.2.2)) | (exfalso; have hwm := within_more (by simpa using hc) hpw.1 hpw.2; simp_all; done)
      · try exact Bool.noConfusion hc
        all_goals
         try replace hc := of_decide_eq_false hc
         try (exfalso; first | contradiction | omega)
         all_goals
          refine G.skip ?_
          refine G.thenN ?_
          refine G.seq ?_
          refine G.seq ?_
          refine G.region ?_
          refine G.v (rv_move rfl) rfl ?_
          refine G.v (rv_not rfl) rfl ?_
          refine G.done ?_
          refine G.thenN ?_
          refine G.cond rfl (fun hc => ?_) (fun hc => ?_)
          · try exact Bool.noConfusion hc
            all_goals
             try replace hc := of_decide_eq_true hc
             try (exfalso; first | contradiction | omega)
             all_goals
              refine G.seq ?_
              refine G.region ?_
              refine G.v (rv_assign rfl) rfl ?_
              refine G.done ?_
              refine G.thenN ?_
              refine G.ret ?_
              refine G.thenR ?_
              first | exact G.retFV rfl rfl rfl | (exfalso; simp at hc; done) | (have hwm := within_more (by simpa using hc) hpw.1 hpw.2; exact G.retFV rfl rfl (congrArg Value.bool hwm.2.2.2)) | (exfalso; have hwm := within_more (by simpa using hc) hpw.1 hpw.2; simp_all; done)
          · try exact Bool.noConfusion hc
            all_goals
             try replace hc := of_decide_eq_false hc
             try (exfalso; first | contradiction | omega)
             all_goals
              refine G.skip ?_
              refine G.thenN ?_
              refine G.seq ?_
              refine G.region ?_
              (first | refine G.v (rv_loadW 0 rfl rfl rfl) rfl ?_ | refine G.v (rv_loadW 1 rfl rfl rfl) rfl ?_ | refine G.v (rv_loadW 2 rfl rfl rfl) rfl ?_ | refine G.v (rv_loadW 3 rfl rfl rfl) rfl ?_ | refine G.v (rv_loadW 4 rfl rfl rfl) rfl ?_ | refine G.v (rv_loadW 5 rfl rfl rfl) rfl ?_ | refine G.v (rv_loadP 0 rfl rfl (.one (.one (.one (.one .nil))))) rfl ?_ | refine G.v (rv_loadP 1 rfl rfl (.one (.one (.one (.one .nil))))) rfl ?_ | refine G.v (rv_loadP 2 rfl rfl (.one (.one (.one (.one .nil))))) rfl ?_ | refine G.v (rv_loadP 3 rfl rfl (.one (.one (.one (.one .nil))))) rfl ?_ | refine G.v (rv_loadP 4 rfl rfl (.one (.one (.one (.one .nil))))) rfl ?_ | refine G.v (rv_loadP 5 rfl rfl (.one (.one (.one (.one .nil))))) rfl ?_)
              refine G.op (og_alloc) rfl (fun bk7 _ => ?_)
              (first | refine G.op0 (og_st0 rfl rfl rfl rfl rfl rfl (.zero (.cons (.cons (.cons (.cons .nil)))))) (fun _ _ => ?_) | refine G.op0 (og_st1 rfl rfl rfl rfl rfl rfl (.zero (.cons (.cons (.cons (.cons .nil)))))) (fun _ _ => ?_) | refine G.op0 (og_st2 rfl rfl rfl rfl rfl rfl (.zero (.cons (.cons (.cons (.cons .nil)))))) (fun _ _ => ?_) | refine G.op0 (og_st3 rfl rfl rfl rfl rfl rfl (.zero (.cons (.cons (.cons (.cons .nil)))))) (fun _ _ => ?_) | refine G.op0 (og_st4 rfl rfl rfl rfl rfl rfl (.zero (.cons (.cons (.cons (.cons .nil)))))) (fun _ _ => ?_) | refine G.op0 (og_st5 rfl rfl rfl rfl rfl rfl (.zero (.cons (.cons (.cons (.cons .nil)))))) (fun _ _ => ?_))
              refine G.done ?_
              refine G.thenN ?_
              refine G.seq ?_
              refine G.region ?_
              (first | refine G.v (rv_field rfl) rfl ?_ | refine G.v (rv_fieldE rfl) rfl ?_)
              (first | refine G.v (rv_load1 0 rfl rfl rfl) rfl ?_ | refine G.v (rv_load1 1 rfl rfl rfl) rfl ?_ | refine G.v (rv_load1 2 rfl rfl rfl) rfl ?_ | refine G.v (rv_load1 3 rfl rfl rfl) rfl ?_ | refine G.v (rv_load1 4 rfl rfl rfl) rfl ?_ | refine G.v (rv_load1 5 rfl rfl rfl) rfl ?_)
              refine G.v (rv_add rfl rfl) rfl ?_
              (first | refine G.v (rv_field rfl) rfl ?_ | refine G.v (rv_fieldE rfl) rfl ?_)
              (first | refine G.op0 (og_st0 rfl rfl rfl rfl rfl rfl (.zero (.cons .nil))) (fun _ _ => ?_) | refine G.op0 (og_st1 rfl rfl rfl rfl rfl rfl (.zero (.cons .nil))) (fun _ _ => ?_) | refine G.op0 (og_st2 rfl rfl rfl rfl rfl rfl (.zero (.cons .nil))) (fun _ _ => ?_) | refine G.op0 (og_st3 rfl rfl rfl rfl rfl rfl (.zero (.cons .nil))) (fun _ _ => ?_) | refine G.op0 (og_st4 rfl rfl rfl rfl rfl rfl (.zero (.cons .nil))) (fun _ _ => ?_) | refine G.op0 (og_st5 rfl rfl rfl rfl rfl rfl (.zero (.cons .nil))) (fun _ _ => ?_))
              refine G.done ?_
              refine G.thenN ?_
              refine G.seq ?_
              refine G.region ?_
              (first | refine G.v (rv_loadW 0 rfl rfl rfl) rfl ?_ | refine G.v (rv_loadW 1 rfl rfl rfl) rfl ?_ | refine G.v (rv_loadW 2 rfl rfl rfl) rfl ?_ | refine G.v (rv_loadW 3 rfl rfl rfl) rfl ?_ | refine G.v (rv_loadW 4 rfl rfl rfl) rfl ?_ | refine G.v (rv_loadW 5 rfl rfl rfl) rfl ?_ | refine G.v (rv_loadP 0 rfl rfl (.one (.one (.one (.one .nil))))) rfl ?_ | refine G.v (rv_loadP 1 rfl rfl (.one (.one (.one (.one .nil))))) rfl ?_ | refine G.v (rv_loadP 2 rfl rfl (.one (.one (.one (.one .nil))))) rfl ?_ | refine G.v (rv_loadP 3 rfl rfl (.one (.one (.one (.one .nil))))) rfl ?_ | refine G.v (rv_loadP 4 rfl rfl (.one (.one (.one (.one .nil))))) rfl ?_ | refine G.v (rv_loadP 5 rfl rfl (.one (.one (.one (.one .nil))))) rfl ?_)
              refine G.op (og_alloc) rfl (fun bk8 _ => ?_)
              (first | refine G.op0 (og_st0 rfl rfl rfl rfl rfl rfl (.zero (.cons (.cons (.cons (.cons .nil)))))) (fun _ _ => ?_) | refine G.op0 (og_st1 rfl rfl rfl rfl rfl rfl (.zero (.cons (.cons (.cons (.cons .nil)))))) (fun _ _ => ?_) | refine G.op0 (og_st2 rfl rfl rfl rfl rfl rfl (.zero (.cons (.cons (.cons (.cons .nil)))))) (fun _ _ => ?_) | refine G.op0 (og_st3 rfl rfl rfl rfl rfl rfl (.zero (.cons (.cons (.cons (.cons .nil)))))) (fun _ _ => ?_) | refine G.op0 (og_st4 rfl rfl rfl rfl rfl rfl (.zero (.cons (.cons (.cons (.cons .nil)))))) (fun _ _ => ?_) | refine G.op0 (og_st5 rfl rfl rfl rfl rfl rfl (.zero (.cons (.cons (.cons (.cons .nil)))))) (fun _ _ => ?_))
              refine G.done ?_
              refine G.thenN ?_
              refine G.seq ?_
              refine G.region ?_
              (first | refine G.v (rv_field rfl) rfl ?_ | refine G.v (rv_fieldE rfl) rfl ?_)
              (first | refine G.v (rv_load1 0 rfl rfl rfl) rfl ?_ | refine G.v (rv_load1 1 rfl rfl rfl) rfl ?_ | refine G.v (rv_load1 2 rfl rfl rfl) rfl ?_ | refine G.v (rv_load1 3 rfl rfl rfl) rfl ?_ | refine G.v (rv_load1 4 rfl rfl rfl) rfl ?_ | refine G.v (rv_load1 5 rfl rfl rfl) rfl ?_)
              (first | refine G.v (rv_field rfl) rfl ?_ | refine G.v (rv_fieldE rfl) rfl ?_)
              (first | refine G.v (rv_load1 0 rfl rfl rfl) rfl ?_ | refine G.v (rv_load1 1 rfl rfl rfl) rfl ?_ | refine G.v (rv_load1 2 rfl rfl rfl) rfl ?_ | refine G.v (rv_load1 3 rfl rfl rfl) rfl ?_ | refine G.v (rv_load1 4 rfl rfl rfl) rfl ?_ | refine G.v (rv_load1 5 rfl rfl rfl) rfl ?_)
              refine G.v (rv_sub rfl rfl) rfl ?_
              (first | refine G.v (rv_field rfl) rfl ?_ | refine G.v (rv_fieldE rfl) rfl ?_)
              (first | refine G.op0 (og_st0 rfl rfl rfl rfl rfl rfl (.succ (.zero (.cons .nil)))) (fun _ _ => ?_) | refine G.op0 (og_st1 rfl rfl rfl rfl rfl rfl (.succ (.zero (.cons .nil)))) (fun _ _ => ?_) | refine G.op0 (og_st2 rfl rfl rfl rfl rfl rfl (.succ (.zero (.cons .nil)))) (fun _ _ => ?_) | refine G.op0 (og_st3 rfl rfl rfl rfl rfl rfl (.succ (.zero (.cons .nil)))) (fun _ _ => ?_) | refine G.op0 (og_st4 rfl rfl rfl rfl rfl rfl (.succ (.zero (.cons .nil)))) (fun _ _ => ?_) | refine G.op0 (og_st5 rfl rfl rfl rfl rfl rfl (.succ (.zero (.cons .nil)))) (fun _ _ => ?_))
              refine G.done ?_
              refine G.thenN ?_
              refine G.seq ?_
              refine G.region ?_
              (first | refine G.v (rv_loadW 0 rfl rfl rfl) rfl ?_ | refine G.v (rv_loadW 1 rfl rfl rfl) rfl ?_ | refine G.v (rv_loadW 2 rfl rfl rfl) rfl ?_ | refine G.v (rv_loadW 3 rfl rfl rfl) rfl ?_ | refine G.v (rv_loadW 4 rfl rfl rfl) rfl ?_ | refine G.v (rv_loadW 5 rfl rfl rfl) rfl ?_ | refine G.v (rv_loadP 0 rfl rfl (.one (.one (.one (.one .nil))))) rfl ?_ | refine G.v (rv_loadP 1 rfl rfl (.one (.one (.one (.one .nil))))) rfl ?_ | refine G.v (rv_loadP 2 rfl rfl (.one (.one (.one (.one .nil))))) rfl ?_ | refine G.v (rv_loadP 3 rfl rfl (.one (.one (.one (.one .nil))))) rfl ?_ | refine G.v (rv_loadP 4 rfl rfl (.one (.one (.one (.one .nil))))) rfl ?_ | refine G.v (rv_loadP 5 rfl rfl (.one (.one (.one (.one .nil))))) rfl ?_)
              refine G.op (og_alloc) rfl (fun bk9 _ => ?_)
              (first | refine G.op0 (og_st0 rfl rfl rfl rfl rfl rfl (.zero (.cons (.cons (.cons (.cons .nil)))))) (fun _ _ => ?_) | refine G.op0 (og_st1 rfl rfl rfl rfl rfl rfl (.zero (.cons (.cons (.cons (.cons .nil)))))) (fun _ _ => ?_) | refine G.op0 (og_st2 rfl rfl rfl rfl rfl rfl (.zero (.cons (.cons (.cons (.cons .nil)))))) (fun _ _ => ?_) | refine G.op0 (og_st3 rfl rfl rfl rfl rfl rfl (.zero (.cons (.cons (.cons (.cons .nil)))))) (fun _ _ => ?_) | refine G.op0 (og_st4 rfl rfl rfl rfl rfl rfl (.zero (.cons (.cons (.cons (.cons .nil)))))) (fun _ _ => ?_) | refine G.op0 (og_st5 rfl rfl rfl rfl rfl rfl (.zero (.cons (.cons (.cons (.cons .nil)))))) (fun _ _ => ?_))
              refine G.done ?_
              refine G.thenN ?_
              refine G.seq ?_
              refine G.region ?_
              (first | refine G.v (rv_field rfl) rfl ?_ | refine G.v (rv_fieldE rfl) rfl ?_)
              (first | refine G.v (rv_load1 0 rfl rfl rfl) rfl ?_ | refine G.v (rv_load1 1 rfl rfl rfl) rfl ?_ | refine G.v (rv_load1 2 rfl rfl rfl) rfl ?_ | refine G.v (rv_load1 3 rfl rfl rfl) rfl ?_ | refine G.v (rv_load1 4 rfl rfl rfl) rfl ?_ | refine G.v (rv_load1 5 rfl rfl rfl) rfl ?_)
              refine G.v (rv_add rfl rfl) rfl ?_
              (first | refine G.v (rv_field rfl) rfl ?_ | refine G.v (rv_fieldE rfl) rfl ?_)
              (first | refine G.op0 (og_st0 rfl rfl rfl rfl rfl rfl (.succ (.zero (.cons .nil)))) (fun _ _ => ?_) | refine G.op0 (og_st1 rfl rfl rfl rfl rfl rfl (.succ (.zero (.cons .nil)))) (fun _ _ => ?_) | refine G.op0 (og_st2 rfl rfl rfl rfl rfl rfl (.succ (.zero (.cons .nil)))) (fun _ _ => ?_) | refine G.op0 (og_st3 rfl rfl rfl rfl rfl rfl (.succ (.zero (.cons .nil)))) (fun _ _ => ?_) | refine G.op0 (og_st4 rfl rfl rfl rfl rfl rfl (.succ (.zero (.cons .nil)))) (fun _ _ => ?_) | refine G.op0 (og_st5 rfl rfl rfl rfl rfl rfl (.succ (.zero (.cons .nil)))) (fun _ _ => ?_))
              refine G.done ?_
              refine G.thenN ?_
              refine G.seq ?_
              refine G.region ?_
              (first | refine G.v (rv_loadW 0 rfl rfl rfl) rfl ?_ | refine G.v (rv_loadW 1 rfl rfl rfl) rfl ?_ | refine G.v (rv_loadW 2 rfl rfl rfl) rfl ?_ | refine G.v (rv_loadW 3 rfl rfl rfl) rfl ?_ | refine G.v (rv_loadW 4 rfl rfl rfl) rfl ?_ | refine G.v (rv_loadW 5 rfl rfl rfl) rfl ?_ | refine G.v (rv_loadP 0 rfl rfl (.one (.one (.one (.one .nil))))) rfl ?_ | refine G.v (rv_loadP 1 rfl rfl (.one (.one (.one (.one .nil))))) rfl ?_ | refine G.v (rv_loadP 2 rfl rfl (.one (.one (.one (.one .nil))))) rfl ?_ | refine G.v (rv_loadP 3 rfl rfl (.one (.one (.one (.one .nil))))) rfl ?_ | refine G.v (rv_loadP 4 rfl rfl (.one (.one (.one (.one .nil))))) rfl ?_ | refine G.v (rv_loadP 5 rfl rfl (.one (.one (.one (.one .nil))))) rfl ?_)
              (first | refine G.v (rv_loadW 0 rfl rfl rfl) rfl ?_ | refine G.v (rv_loadW 1 rfl rfl rfl) rfl ?_ | refine G.v (rv_loadW 2 rfl rfl rfl) rfl ?_ | refine G.v (rv_loadW 3 rfl rfl rfl) rfl ?_ | refine G.v (rv_loadW 4 rfl rfl rfl) rfl ?_ | refine G.v (rv_loadW 5 rfl rfl rfl) rfl ?_ | refine G.v (rv_loadP 0 rfl rfl (.one (.one (.one (.one .nil))))) rfl ?_ | refine G.v (rv_loadP 1 rfl rfl (.one (.one (.one (.one .nil))))) rfl ?_ | refine G.v (rv_loadP 2 rfl rfl (.one (.one (.one (.one .nil))))) rfl ?_ | refine G.v (rv_loadP 3 rfl rfl (.one (.one (.one (.one .nil))))) rfl ?_ | refine G.v (rv_loadP 4 rfl rfl (.one (.one (.one (.one .nil))))) rfl ?_ | refine G.v (rv_loadP 5 rfl rfl (.one (.one (.one (.one .nil))))) rfl ?_)
              (first | refine G.v (rv_loadW 0 rfl rfl rfl) rfl ?_ | refine G.v (rv_loadW 1 rfl rfl rfl) rfl ?_ | refine G.v (rv_loadW 2 rfl rfl rfl) rfl ?_ | refine G.v (rv_loadW 3 rfl rfl rfl) rfl ?_ | refine G.v (rv_loadW 4 rfl rfl rfl) rfl ?_ | refine G.v (rv_loadW 5 rfl rfl rfl) rfl ?_ | refine G.v (rv_loadP 0 rfl rfl (.one (.one (.one (.one .nil))))) rfl ?_ | refine G.v (rv_loadP 1 rfl rfl (.one (.one (.one (.one .nil))))) rfl ?_ | refine G.v (rv_loadP 2 rfl rfl (.one (.one (.one (.one .nil))))) rfl ?_ | refine G.v (rv_loadP 3 rfl rfl (.one (.one (.one (.one .nil))))) rfl ?_ | refine G.v (rv_loadP 4 rfl rfl (.one (.one (.one (.one .nil))))) rfl ?_ | refine G.v (rv_loadP 5 rfl rfl (.one (.one (.one (.one .nil))))) rfl ?_)
              refine G.op (og_callV rfl rfl (fun w _ => within_ints _ _ _ _ _ _ _ _ _ _ _ _ w)) rfl (fun _ _ => ?_)
              refine G.v (rv_move rfl) rfl ?_
              all_goals (((with_reducible refine G.gP rfl rfl (fun hg => ?_) (fun hg => ?_)) <;> (try exact Bool.noConfusion hg) <;> (first | (refine G.gY rfl rfl ?_; (first | refine G.v (rv_loadW 0 rfl rfl rfl) rfl ?_ | refine G.v (rv_loadW 1 rfl rfl rfl) rfl ?_ | refine G.v (rv_loadW 2 rfl rfl rfl) rfl ?_ | refine G.v (rv_loadW 3 rfl rfl rfl) rfl ?_ | refine G.v (rv_loadW 4 rfl rfl rfl) rfl ?_ | refine G.v (rv_loadW 5 rfl rfl rfl) rfl ?_ | refine G.v (rv_loadP 0 rfl rfl (.one (.one (.one (.one .nil))))) rfl ?_ | refine G.v (rv_loadP 1 rfl rfl (.one (.one (.one (.one .nil))))) rfl ?_ | refine G.v (rv_loadP 2 rfl rfl (.one (.one (.one (.one .nil))))) rfl ?_ | refine G.v (rv_loadP 3 rfl rfl (.one (.one (.one (.one .nil))))) rfl ?_ | refine G.v (rv_loadP 4 rfl rfl (.one (.one (.one (.one .nil))))) rfl ?_ | refine G.v (rv_loadP 5 rfl rfl (.one (.one (.one (.one .nil))))) rfl ?_)) | refine G.gN rfl rfl rfl ?_ | refine G.gU rfl rfl rfl ?_)))
              all_goals ((first | (refine G.gY rfl rfl ?_; (first | refine G.v (rv_loadW 0 rfl rfl rfl) rfl ?_ | refine G.v (rv_loadW 1 rfl rfl rfl) rfl ?_ | refine G.v (rv_loadW 2 rfl rfl rfl) rfl ?_ | refine G.v (rv_loadW 3 rfl rfl rfl) rfl ?_ | refine G.v (rv_loadW 4 rfl rfl rfl) rfl ?_ | refine G.v (rv_loadW 5 rfl rfl rfl) rfl ?_ | refine G.v (rv_loadP 0 rfl rfl (.one (.one (.one (.one .nil))))) rfl ?_ | refine G.v (rv_loadP 1 rfl rfl (.one (.one (.one (.one .nil))))) rfl ?_ | refine G.v (rv_loadP 2 rfl rfl (.one (.one (.one (.one .nil))))) rfl ?_ | refine G.v (rv_loadP 3 rfl rfl (.one (.one (.one (.one .nil))))) rfl ?_ | refine G.v (rv_loadP 4 rfl rfl (.one (.one (.one (.one .nil))))) rfl ?_ | refine G.v (rv_loadP 5 rfl rfl (.one (.one (.one (.one .nil))))) rfl ?_)) | refine G.gN rfl rfl rfl ?_ | refine G.gU rfl rfl rfl ?_))
              all_goals ((first | (refine G.gY rfl rfl ?_; (first | refine G.v (rv_loadW 0 rfl rfl rfl) rfl ?_ | refine G.v (rv_loadW 1 rfl rfl rfl) rfl ?_ | refine G.v (rv_loadW 2 rfl rfl rfl) rfl ?_ | refine G.v (rv_loadW 3 rfl rfl rfl) rfl ?_ | refine G.v (rv_loadW 4 rfl rfl rfl) rfl ?_ | refine G.v (rv_loadW 5 rfl rfl rfl) rfl ?_ | refine G.v (rv_loadP 0 rfl rfl (.one (.one (.one (.one .nil))))) rfl ?_ | refine G.v (rv_loadP 1 rfl rfl (.one (.one (.one (.one .nil))))) rfl ?_ | refine G.v (rv_loadP 2 rfl rfl (.one (.one (.one (.one .nil))))) rfl ?_ | refine G.v (rv_loadP 3 rfl rfl (.one (.one (.one (.one .nil))))) rfl ?_ | refine G.v (rv_loadP 4 rfl rfl (.one (.one (.one (.one .nil))))) rfl ?_ | refine G.v (rv_loadP 5 rfl rfl (.one (.one (.one (.one .nil))))) rfl ?_)) | refine G.gN rfl rfl rfl ?_ | refine G.gU rfl rfl rfl ?_))
              all_goals ((first | (refine G.gY rfl rfl ?_; refine G.op (og_callV rfl rfl (fun w _ => within_ints _ _ _ _ _ _ _ _ _ _ _ _ w)) rfl (fun _ _ => ?_)) | refine G.gN rfl rfl rfl ?_ | refine G.gU rfl rfl rfl ?_))
              all_goals ((first | refine G.v (rv_pickT rfl rfl) rfl ?_ | refine G.v (rv_pickF rfl rfl) rfl ?_))
              all_goals (refine G.v (rv_move rfl) rfl ?_)
              all_goals (((with_reducible refine G.gP rfl rfl (fun hg => ?_) (fun hg => ?_)) <;> (try exact Bool.noConfusion hg) <;> (first | (refine G.gY rfl rfl ?_; (first | refine G.v (rv_loadW 0 rfl rfl rfl) rfl ?_ | refine G.v (rv_loadW 1 rfl rfl rfl) rfl ?_ | refine G.v (rv_loadW 2 rfl rfl rfl) rfl ?_ | refine G.v (rv_loadW 3 rfl rfl rfl) rfl ?_ | refine G.v (rv_loadW 4 rfl rfl rfl) rfl ?_ | refine G.v (rv_loadW 5 rfl rfl rfl) rfl ?_ | refine G.v (rv_loadP 0 rfl rfl (.one (.one (.one (.one .nil))))) rfl ?_ | refine G.v (rv_loadP 1 rfl rfl (.one (.one (.one (.one .nil))))) rfl ?_ | refine G.v (rv_loadP 2 rfl rfl (.one (.one (.one (.one .nil))))) rfl ?_ | refine G.v (rv_loadP 3 rfl rfl (.one (.one (.one (.one .nil))))) rfl ?_ | refine G.v (rv_loadP 4 rfl rfl (.one (.one (.one (.one .nil))))) rfl ?_ | refine G.v (rv_loadP 5 rfl rfl (.one (.one (.one (.one .nil))))) rfl ?_)) | refine G.gN rfl rfl rfl ?_ | refine G.gU rfl rfl rfl ?_)))
              all_goals ((first | (refine G.gY rfl rfl ?_; (first | refine G.v (rv_loadW 0 rfl rfl rfl) rfl ?_ | refine G.v (rv_loadW 1 rfl rfl rfl) rfl ?_ | refine G.v (rv_loadW 2 rfl rfl rfl) rfl ?_ | refine G.v (rv_loadW 3 rfl rfl rfl) rfl ?_ | refine G.v (rv_loadW 4 rfl rfl rfl) rfl ?_ | refine G.v (rv_loadW 5 rfl rfl rfl) rfl ?_ | refine G.v (rv_loadP 0 rfl rfl (.one (.one (.one (.one .nil))))) rfl ?_ | refine G.v (rv_loadP 1 rfl rfl (.one (.one (.one (.one .nil))))) rfl ?_ | refine G.v (rv_loadP 2 rfl rfl (.one (.one (.one (.one .nil))))) rfl ?_ | refine G.v (rv_loadP 3 rfl rfl (.one (.one (.one (.one .nil))))) rfl ?_ | refine G.v (rv_loadP 4 rfl rfl (.one (.one (.one (.one .nil))))) rfl ?_ | refine G.v (rv_loadP 5 rfl rfl (.one (.one (.one (.one .nil))))) rfl ?_)) | refine G.gN rfl rfl rfl ?_ | refine G.gU rfl rfl rfl ?_))
              all_goals ((first | (refine G.gY rfl rfl ?_; (first | refine G.v (rv_loadW 0 rfl rfl rfl) rfl ?_ | refine G.v (rv_loadW 1 rfl rfl rfl) rfl ?_ | refine G.v (rv_loadW 2 rfl rfl rfl) rfl ?_ | refine G.v (rv_loadW 3 rfl rfl rfl) rfl ?_ | refine G.v (rv_loadW 4 rfl rfl rfl) rfl ?_ | refine G.v (rv_loadW 5 rfl rfl rfl) rfl ?_ | refine G.v (rv_loadP 0 rfl rfl (.one (.one (.one (.one .nil))))) rfl ?_ | refine G.v (rv_loadP 1 rfl rfl (.one (.one (.one (.one .nil))))) rfl ?_ | refine G.v (rv_loadP 2 rfl rfl (.one (.one (.one (.one .nil))))) rfl ?_ | refine G.v (rv_loadP 3 rfl rfl (.one (.one (.one (.one .nil))))) rfl ?_ | refine G.v (rv_loadP 4 rfl rfl (.one (.one (.one (.one .nil))))) rfl ?_ | refine G.v (rv_loadP 5 rfl rfl (.one (.one (.one (.one .nil))))) rfl ?_)) | refine G.gN rfl rfl rfl ?_ | refine G.gU rfl rfl rfl ?_))
              all_goals ((first | (refine G.gY rfl rfl ?_; refine G.op (og_callV rfl rfl (fun w _ => within_ints _ _ _ _ _ _ _ _ _ _ _ _ w)) rfl (fun _ _ => ?_)) | refine G.gN rfl rfl rfl ?_ | refine G.gU rfl rfl rfl ?_))
              all_goals ((first | (refine G.gY rfl rfl ?_; refine G.v (rv_not rfl) rfl ?_) | refine G.gN rfl rfl rfl ?_ | refine G.gU rfl rfl rfl ?_))
              all_goals ((first | refine G.v (rv_pickT rfl rfl) rfl ?_ | refine G.v (rv_pickF rfl rfl) rfl ?_))
              all_goals (refine G.v (rv_move rfl) rfl ?_)
              all_goals (((with_reducible refine G.gP rfl rfl (fun hg => ?_) (fun hg => ?_)) <;> (try exact Bool.noConfusion hg) <;> (first | (refine G.gY rfl rfl ?_; (first | refine G.v (rv_loadW 0 rfl rfl rfl) rfl ?_ | refine G.v (rv_loadW 1 rfl rfl rfl) rfl ?_ | refine G.v (rv_loadW 2 rfl rfl rfl) rfl ?_ | refine G.v (rv_loadW 3 rfl rfl rfl) rfl ?_ | refine G.v (rv_loadW 4 rfl rfl rfl) rfl ?_ | refine G.v (rv_loadW 5 rfl rfl rfl) rfl ?_ | refine G.v (rv_loadP 0 rfl rfl (.one (.one (.one (.one .nil))))) rfl ?_ | refine G.v (rv_loadP 1 rfl rfl (.one (.one (.one (.one .nil))))) rfl ?_ | refine G.v (rv_loadP 2 rfl rfl (.one (.one (.one (.one .nil))))) rfl ?_ | refine G.v (rv_loadP 3 rfl rfl (.one (.one (.one (.one .nil))))) rfl ?_ | refine G.v (rv_loadP 4 rfl rfl (.one (.one (.one (.one .nil))))) rfl ?_ | refine G.v (rv_loadP 5 rfl rfl (.one (.one (.one (.one .nil))))) rfl ?_)) | refine G.gN rfl rfl rfl ?_ | refine G.gU rfl rfl rfl ?_)))
              all_goals ((first | (refine G.gY rfl rfl ?_; (first | refine G.v (rv_loadW 0 rfl rfl rfl) rfl ?_ | refine G.v (rv_loadW 1 rfl rfl rfl) rfl ?_ | refine G.v (rv_loadW 2 rfl rfl rfl) rfl ?_ | refine G.v (rv_loadW 3 rfl rfl rfl) rfl ?_ | refine G.v (rv_loadW 4 rfl rfl rfl) rfl ?_ | refine G.v (rv_loadW 5 rfl rfl rfl) rfl ?_ | refine G.v (rv_loadP 0 rfl rfl (.one (.one (.one (.one .nil))))) rfl ?_ | refine G.v (rv_loadP 1 rfl rfl (.one (.one (.one (.one .nil))))) rfl ?_ | refine G.v (rv_loadP 2 rfl rfl (.one (.one (.one (.one .nil))))) rfl ?_ | refine G.v (rv_loadP 3 rfl rfl (.one (.one (.one (.one .nil))))) rfl ?_ | refine G.v (rv_loadP 4 rfl rfl (.one (.one (.one (.one .nil))))) rfl ?_ | refine G.v (rv_loadP 5 rfl rfl (.one (.one (.one (.one .nil))))) rfl ?_)) | refine G.gN rfl rfl rfl ?_ | refine G.gU rfl rfl rfl ?_))
              all_goals ((first | (refine G.gY rfl rfl ?_; (first | refine G.v (rv_loadW 0 rfl rfl rfl) rfl ?_ | refine G.v (rv_loadW 1 rfl rfl rfl) rfl ?_ | refine G.v (rv_loadW 2 rfl rfl rfl) rfl ?_ | refine G.v (rv_loadW 3 rfl rfl rfl) rfl ?_ | refine G.v (rv_loadW 4 rfl rfl rfl) rfl ?_ | refine G.v (rv_loadW 5 rfl rfl rfl) rfl ?_ | refine G.v (rv_loadP 0 rfl rfl (.one (.one (.one (.one .nil))))) rfl ?_ | refine G.v (rv_loadP 1 rfl rfl (.one (.one (.one (.one .nil))))) rfl ?_ | refine G.v (rv_loadP 2 rfl rfl (.one (.one (.one (.one .nil))))) rfl ?_ | refine G.v (rv_loadP 3 rfl rfl (.one (.one (.one (.one .nil))))) rfl ?_ | refine G.v (rv_loadP 4 rfl rfl (.one (.one (.one (.one .nil))))) rfl ?_ | refine G.v (rv_loadP 5 rfl rfl (.one (.one (.one (.one .nil))))) rfl ?_)) | refine G.gN rfl rfl rfl ?_ | refine G.gU rfl rfl rfl ?_))
              all_goals ((first | (refine G.gY rfl rfl ?_; refine G.op (og_callV rfl rfl (fun w _ => within_ints _ _ _ _ _ _ _ _ _ _ _ _ w)) rfl (fun _ _ => ?_)) | refine G.gN rfl rfl rfl ?_ | refine G.gU rfl rfl rfl ?_))
              all_goals ((first | refine G.v (rv_pickT rfl rfl) rfl ?_ | refine G.v (rv_pickF rfl rfl) rfl ?_))
              all_goals (refine G.v (rv_assign rfl) rfl ?_)
              all_goals
               refine G.done ?_
               refine G.thenN ?_
               refine G.ret ?_
               first | exact G.retFV rfl rfl rfl | (exfalso; simp at hc; done) | (have hwm := within_more (by simpa using hc) hpw.1 hpw.2; exact G.retFV rfl rfl (congrArg Value.bool hwm.2.2.2)) | (exfalso; have hwm := within_more (by simpa using hc) hpw.1 hpw.2; simp_all; done)
theorem fnOverlaps_any {v : Value} {l : List Int} {w : World} (h : Rd w v 1 (l.map bcell)) : FnV Try.prog 4 [v] w (.bool true) := by
  refine FnV.of (n := 101) Try.func4 rfl rfl ?_
  refine G.seq ?_
  refine G.region ?_
  refine G.v (rv_assign rfl) rfl ?_
  refine G.done ?_
  refine G.thenN ?_
  refine G.seq ?_
  refine G.seq ?_
  refine G.region ?_
  refine G.v (rv_move rfl) rfl ?_
  refine G.op (og_callV rfl rfl (fun w hh => big_any w (by first | exact Rd.stays (by assumption) _ hh | exact Rd.owned 0 rfl _ hh | exact Rd.owned 1 rfl _ hh | exact Rd.owned 2 rfl _ hh | exact Rd.owned 3 rfl _ hh))) rfl (fun _ _ => ?_)
  refine G.done ?_
  refine G.thenN ?_
  refine G.cond rfl (fun hc => ?_) (fun hc => ?_)
  · try exact Bool.noConfusion hc
    all_goals
     try replace hc := of_decide_eq_true hc
     try (exfalso; first | contradiction | omega)
     all_goals
      refine G.seq ?_
      refine G.region ?_
      refine G.v (rv_assign rfl) rfl ?_
      refine G.done ?_
      refine G.thenN ?_
      refine G.ret ?_
      refine G.thenR ?_
      first | exact G.retFV rfl rfl rfl | (exfalso; rw [overlap_comm] at hc; simp at hc; done) | (exfalso; rw [overlap_comm] at hg; simp at hg; done) | (exfalso; simp at hc; done) | (exfalso; rw [overlap_comm] at hc; simp_all; done) | (have hop := overlap_point (bnot_false (by assumption)) (by first | exact not_lt1 (by assumption) | omega) (by first | exact not_lt1 (by assumption) | omega) (by first | exact not_lt1 (by assumption) | omega) (by first | exact not_lt1 (by assumption) | omega) (by first | exact not_lt1 (by assumption) | omega) (by first | exact not_lt1 (by assumption) | omega); first | exact G.retFV rfl rfl (congrArg Value.bool hop.2) | (exfalso; simp_all; done))
  · try exact Bool.noConfusion hc
    all_goals
     try replace hc := of_decide_eq_false hc
     try (exfalso; first | contradiction | omega)
     all_goals
      refine G.skip ?_
      refine G.thenN ?_
      refine G.seq ?_
      refine G.region ?_
      refine G.v (rv_move rfl) rfl ?_
      (refine G.op (og_callF0 rfl rfl (fun w hh => drawOverlap_any w (by first | exact Rd.stays (by assumption) _ hh | exact Rd.owned 0 rfl _ hh | exact Rd.owned 1 rfl _ hh | exact Rd.owned 2 rfl _ hh | exact Rd.owned 3 rfl _ hh))) rfl ?_; rintro ⟨⟨p1, p2, p3, p4⟩, ⟨b1, b2, b3, b4⟩, ⟨s1, s2, s3, s4⟩, ⟨t1, t2, t3, t4⟩⟩ hpw; try dsimp only [BoxM.val, BoxM.cells, SpotM.val, SpotM.cells, PalletM.val, PalletM.cells])
      refine G.v (rv_move rfl) rfl ?_
      refine G.v (rv_extract rfl rfl) rfl ?_
      refine G.v (rv_extract rfl rfl) rfl ?_
      refine G.v (rv_extract rfl rfl) rfl ?_
      refine G.v (rv_extract rfl rfl) rfl ?_
      refine G.op (og_alloc) rfl (fun bk3 _ => ?_)
      refine G.op (og_alloc) rfl (fun bk4 _ => ?_)
      refine G.op (og_alloc) rfl (fun bk5 _ => ?_)
      refine G.op (og_alloc) rfl (fun bk6 _ => ?_)
      (first | refine G.op0 (og_st0 rfl rfl rfl rfl rfl rfl (.zero (.cons (.cons (.cons (.cons .nil)))))) (fun _ _ => ?_) | refine G.op0 (og_st1 rfl rfl rfl rfl rfl rfl (.zero (.cons (.cons (.cons (.cons .nil)))))) (fun _ _ => ?_) | refine G.op0 (og_st2 rfl rfl rfl rfl rfl rfl (.zero (.cons (.cons (.cons (.cons .nil)))))) (fun _ _ => ?_) | refine G.op0 (og_st3 rfl rfl rfl rfl rfl rfl (.zero (.cons (.cons (.cons (.cons .nil)))))) (fun _ _ => ?_) | refine G.op0 (og_st4 rfl rfl rfl rfl rfl rfl (.zero (.cons (.cons (.cons (.cons .nil)))))) (fun _ _ => ?_) | refine G.op0 (og_st5 rfl rfl rfl rfl rfl rfl (.zero (.cons (.cons (.cons (.cons .nil)))))) (fun _ _ => ?_) | refine G.op0 (og_st6 rfl rfl rfl rfl rfl rfl (.zero (.cons (.cons (.cons (.cons .nil)))))) (fun _ _ => ?_))
      (first | refine G.op0 (og_st0 rfl rfl rfl rfl rfl rfl (.zero (.cons (.cons (.cons (.cons .nil)))))) (fun _ _ => ?_) | refine G.op0 (og_st1 rfl rfl rfl rfl rfl rfl (.zero (.cons (.cons (.cons (.cons .nil)))))) (fun _ _ => ?_) | refine G.op0 (og_st2 rfl rfl rfl rfl rfl rfl (.zero (.cons (.cons (.cons (.cons .nil)))))) (fun _ _ => ?_) | refine G.op0 (og_st3 rfl rfl rfl rfl rfl rfl (.zero (.cons (.cons (.cons (.cons .nil)))))) (fun _ _ => ?_) | refine G.op0 (og_st4 rfl rfl rfl rfl rfl rfl (.zero (.cons (.cons (.cons (.cons .nil)))))) (fun _ _ => ?_) | refine G.op0 (og_st5 rfl rfl rfl rfl rfl rfl (.zero (.cons (.cons (.cons (.cons .nil)))))) (fun _ _ => ?_) | refine G.op0 (og_st6 rfl rfl rfl rfl rfl rfl (.zero (.cons (.cons (.cons (.cons .nil)))))) (fun _ _ => ?_))
      (first | refine G.op0 (og_st0 rfl rfl rfl rfl rfl rfl (.zero (.cons (.cons (.cons (.cons .nil)))))) (fun _ _ => ?_) | refine G.op0 (og_st1 rfl rfl rfl rfl rfl rfl (.zero (.cons (.cons (.cons (.cons .nil)))))) (fun _ _ => ?_) | refine G.op0 (og_st2 rfl rfl rfl rfl rfl rfl (.zero (.cons (.cons (.cons (.cons .nil)))))) (fun _ _ => ?_) | refine G.op0 (og_st3 rfl rfl rfl rfl rfl rfl (.zero (.cons (.cons (.cons (.cons .nil)))))) (fun _ _ => ?_) | refine G.op0 (og_st4 rfl rfl rfl rfl rfl rfl (.zero (.cons (.cons (.cons (.cons .nil)))))) (fun _ _ => ?_) | refine G.op0 (og_st5 rfl rfl rfl rfl rfl rfl (.zero (.cons (.cons (.cons (.cons .nil)))))) (fun _ _ => ?_) | refine G.op0 (og_st6 rfl rfl rfl rfl rfl rfl (.zero (.cons (.cons (.cons (.cons .nil)))))) (fun _ _ => ?_))
      (first | refine G.op0 (og_st0 rfl rfl rfl rfl rfl rfl (.zero (.cons (.cons (.cons (.cons .nil)))))) (fun _ _ => ?_) | refine G.op0 (og_st1 rfl rfl rfl rfl rfl rfl (.zero (.cons (.cons (.cons (.cons .nil)))))) (fun _ _ => ?_) | refine G.op0 (og_st2 rfl rfl rfl rfl rfl rfl (.zero (.cons (.cons (.cons (.cons .nil)))))) (fun _ _ => ?_) | refine G.op0 (og_st3 rfl rfl rfl rfl rfl rfl (.zero (.cons (.cons (.cons (.cons .nil)))))) (fun _ _ => ?_) | refine G.op0 (og_st4 rfl rfl rfl rfl rfl rfl (.zero (.cons (.cons (.cons (.cons .nil)))))) (fun _ _ => ?_) | refine G.op0 (og_st5 rfl rfl rfl rfl rfl rfl (.zero (.cons (.cons (.cons (.cons .nil)))))) (fun _ _ => ?_) | refine G.op0 (og_st6 rfl rfl rfl rfl rfl rfl (.zero (.cons (.cons (.cons (.cons .nil)))))) (fun _ _ => ?_))
      refine G.done ?_
      refine G.thenN ?_
      refine G.seq ?_
      refine G.region ?_
      (first | refine G.v (rv_loadW 0 rfl rfl rfl) rfl ?_ | refine G.v (rv_loadW 1 rfl rfl rfl) rfl ?_ | refine G.v (rv_loadW 2 rfl rfl rfl) rfl ?_ | refine G.v (rv_loadW 3 rfl rfl rfl) rfl ?_ | refine G.v (rv_loadW 4 rfl rfl rfl) rfl ?_ | refine G.v (rv_loadW 5 rfl rfl rfl) rfl ?_ | refine G.v (rv_loadW 6 rfl rfl rfl) rfl ?_ | refine G.v (rv_loadP 0 rfl rfl (.one (.one (.one (.one .nil))))) rfl ?_ | refine G.v (rv_loadP 1 rfl rfl (.one (.one (.one (.one .nil))))) rfl ?_ | refine G.v (rv_loadP 2 rfl rfl (.one (.one (.one (.one .nil))))) rfl ?_ | refine G.v (rv_loadP 3 rfl rfl (.one (.one (.one (.one .nil))))) rfl ?_ | refine G.v (rv_loadP 4 rfl rfl (.one (.one (.one (.one .nil))))) rfl ?_ | refine G.v (rv_loadP 5 rfl rfl (.one (.one (.one (.one .nil))))) rfl ?_ | refine G.v (rv_loadP 6 rfl rfl (.one (.one (.one (.one .nil))))) rfl ?_)
      (first | refine G.v (rv_loadW 0 rfl rfl rfl) rfl ?_ | refine G.v (rv_loadW 1 rfl rfl rfl) rfl ?_ | refine G.v (rv_loadW 2 rfl rfl rfl) rfl ?_ | refine G.v (rv_loadW 3 rfl rfl rfl) rfl ?_ | refine G.v (rv_loadW 4 rfl rfl rfl) rfl ?_ | refine G.v (rv_loadW 5 rfl rfl rfl) rfl ?_ | refine G.v (rv_loadW 6 rfl rfl rfl) rfl ?_ | refine G.v (rv_loadP 0 rfl rfl (.one (.one (.one (.one .nil))))) rfl ?_ | refine G.v (rv_loadP 1 rfl rfl (.one (.one (.one (.one .nil))))) rfl ?_ | refine G.v (rv_loadP 2 rfl rfl (.one (.one (.one (.one .nil))))) rfl ?_ | refine G.v (rv_loadP 3 rfl rfl (.one (.one (.one (.one .nil))))) rfl ?_ | refine G.v (rv_loadP 4 rfl rfl (.one (.one (.one (.one .nil))))) rfl ?_ | refine G.v (rv_loadP 5 rfl rfl (.one (.one (.one (.one .nil))))) rfl ?_ | refine G.v (rv_loadP 6 rfl rfl (.one (.one (.one (.one .nil))))) rfl ?_)
      (first | refine G.v (rv_loadW 0 rfl rfl rfl) rfl ?_ | refine G.v (rv_loadW 1 rfl rfl rfl) rfl ?_ | refine G.v (rv_loadW 2 rfl rfl rfl) rfl ?_ | refine G.v (rv_loadW 3 rfl rfl rfl) rfl ?_ | refine G.v (rv_loadW 4 rfl rfl rfl) rfl ?_ | refine G.v (rv_loadW 5 rfl rfl rfl) rfl ?_ | refine G.v (rv_loadW 6 rfl rfl rfl) rfl ?_ | refine G.v (rv_loadP 0 rfl rfl (.one (.one (.one (.one .nil))))) rfl ?_ | refine G.v (rv_loadP 1 rfl rfl (.one (.one (.one (.one .nil))))) rfl ?_ | refine G.v (rv_loadP 2 rfl rfl (.one (.one (.one (.one .nil))))) rfl ?_ | refine G.v (rv_loadP 3 rfl rfl (.one (.one (.one (.one .nil))))) rfl ?_ | refine G.v (rv_loadP 4 rfl rfl (.one (.one (.one (.one .nil))))) rfl ?_ | refine G.v (rv_loadP 5 rfl rfl (.one (.one (.one (.one .nil))))) rfl ?_ | refine G.v (rv_loadP 6 rfl rfl (.one (.one (.one (.one .nil))))) rfl ?_)
      (first | refine G.v (rv_loadW 0 rfl rfl rfl) rfl ?_ | refine G.v (rv_loadW 1 rfl rfl rfl) rfl ?_ | refine G.v (rv_loadW 2 rfl rfl rfl) rfl ?_ | refine G.v (rv_loadW 3 rfl rfl rfl) rfl ?_ | refine G.v (rv_loadW 4 rfl rfl rfl) rfl ?_ | refine G.v (rv_loadW 5 rfl rfl rfl) rfl ?_ | refine G.v (rv_loadW 6 rfl rfl rfl) rfl ?_ | refine G.v (rv_loadP 0 rfl rfl (.one (.one (.one (.one .nil))))) rfl ?_ | refine G.v (rv_loadP 1 rfl rfl (.one (.one (.one (.one .nil))))) rfl ?_ | refine G.v (rv_loadP 2 rfl rfl (.one (.one (.one (.one .nil))))) rfl ?_ | refine G.v (rv_loadP 3 rfl rfl (.one (.one (.one (.one .nil))))) rfl ?_ | refine G.v (rv_loadP 4 rfl rfl (.one (.one (.one (.one .nil))))) rfl ?_ | refine G.v (rv_loadP 5 rfl rfl (.one (.one (.one (.one .nil))))) rfl ?_ | refine G.v (rv_loadP 6 rfl rfl (.one (.one (.one (.one .nil))))) rfl ?_)
      refine G.op (og_callV rfl rfl (fun w _ => overlap_ints _ _ _ _ _ _ _ _ _ _ _ _ _ _ _ _ w)) rfl (fun _ _ => ?_)
      refine G.v (rv_assign rfl) rfl ?_
      refine G.done ?_
      refine G.thenN ?_
      refine G.seq ?_
      refine G.seq ?_
      refine G.region ?_
      refine G.v (rv_move rfl) rfl ?_
      (first | refine G.v (rv_loadW 0 rfl rfl rfl) rfl ?_ | refine G.v (rv_loadW 1 rfl rfl rfl) rfl ?_ | refine G.v (rv_loadW 2 rfl rfl rfl) rfl ?_ | refine G.v (rv_loadW 3 rfl rfl rfl) rfl ?_ | refine G.v (rv_loadW 4 rfl rfl rfl) rfl ?_ | refine G.v (rv_loadW 5 rfl rfl rfl) rfl ?_ | refine G.v (rv_loadW 6 rfl rfl rfl) rfl ?_ | refine G.v (rv_loadP 0 rfl rfl (.one (.one (.one (.one .nil))))) rfl ?_ | refine G.v (rv_loadP 1 rfl rfl (.one (.one (.one (.one .nil))))) rfl ?_ | refine G.v (rv_loadP 2 rfl rfl (.one (.one (.one (.one .nil))))) rfl ?_ | refine G.v (rv_loadP 3 rfl rfl (.one (.one (.one (.one .nil))))) rfl ?_ | refine G.v (rv_loadP 4 rfl rfl (.one (.one (.one (.one .nil))))) rfl ?_ | refine G.v (rv_loadP 5 rfl rfl (.one (.one (.one (.one .nil))))) rfl ?_ | refine G.v (rv_loadP 6 rfl rfl (.one (.one (.one (.one .nil))))) rfl ?_)
      (first | refine G.v (rv_loadW 0 rfl rfl rfl) rfl ?_ | refine G.v (rv_loadW 1 rfl rfl rfl) rfl ?_ | refine G.v (rv_loadW 2 rfl rfl rfl) rfl ?_ | refine G.v (rv_loadW 3 rfl rfl rfl) rfl ?_ | refine G.v (rv_loadW 4 rfl rfl rfl) rfl ?_ | refine G.v (rv_loadW 5 rfl rfl rfl) rfl ?_ | refine G.v (rv_loadW 6 rfl rfl rfl) rfl ?_ | refine G.v (rv_loadP 0 rfl rfl (.one (.one (.one (.one .nil))))) rfl ?_ | refine G.v (rv_loadP 1 rfl rfl (.one (.one (.one (.one .nil))))) rfl ?_ | refine G.v (rv_loadP 2 rfl rfl (.one (.one (.one (.one .nil))))) rfl ?_ | refine G.v (rv_loadP 3 rfl rfl (.one (.one (.one (.one .nil))))) rfl ?_ | refine G.v (rv_loadP 4 rfl rfl (.one (.one (.one (.one .nil))))) rfl ?_ | refine G.v (rv_loadP 5 rfl rfl (.one (.one (.one (.one .nil))))) rfl ?_ | refine G.v (rv_loadP 6 rfl rfl (.one (.one (.one (.one .nil))))) rfl ?_)
      (first | refine G.v (rv_loadW 0 rfl rfl rfl) rfl ?_ | refine G.v (rv_loadW 1 rfl rfl rfl) rfl ?_ | refine G.v (rv_loadW 2 rfl rfl rfl) rfl ?_ | refine G.v (rv_loadW 3 rfl rfl rfl) rfl ?_ | refine G.v (rv_loadW 4 rfl rfl rfl) rfl ?_ | refine G.v (rv_loadW 5 rfl rfl rfl) rfl ?_ | refine G.v (rv_loadW 6 rfl rfl rfl) rfl ?_ | refine G.v (rv_loadP 0 rfl rfl (.one (.one (.one (.one .nil))))) rfl ?_ | refine G.v (rv_loadP 1 rfl rfl (.one (.one (.one (.one .nil))))) rfl ?_ | refine G.v (rv_loadP 2 rfl rfl (.one (.one (.one (.one .nil))))) rfl ?_ | refine G.v (rv_loadP 3 rfl rfl (.one (.one (.one (.one .nil))))) rfl ?_ | refine G.v (rv_loadP 4 rfl rfl (.one (.one (.one (.one .nil))))) rfl ?_ | refine G.v (rv_loadP 5 rfl rfl (.one (.one (.one (.one .nil))))) rfl ?_ | refine G.v (rv_loadP 6 rfl rfl (.one (.one (.one (.one .nil))))) rfl ?_)
      (first | refine G.v (rv_loadW 0 rfl rfl rfl) rfl ?_ | refine G.v (rv_loadW 1 rfl rfl rfl) rfl ?_ | refine G.v (rv_loadW 2 rfl rfl rfl) rfl ?_ | refine G.v (rv_loadW 3 rfl rfl rfl) rfl ?_ | refine G.v (rv_loadW 4 rfl rfl rfl) rfl ?_ | refine G.v (rv_loadW 5 rfl rfl rfl) rfl ?_ | refine G.v (rv_loadW 6 rfl rfl rfl) rfl ?_ | refine G.v (rv_loadP 0 rfl rfl (.one (.one (.one (.one .nil))))) rfl ?_ | refine G.v (rv_loadP 1 rfl rfl (.one (.one (.one (.one .nil))))) rfl ?_ | refine G.v (rv_loadP 2 rfl rfl (.one (.one (.one (.one .nil))))) rfl ?_ | refine G.v (rv_loadP 3 rfl rfl (.one (.one (.one (.one .nil))))) rfl ?_ | refine G.v (rv_loadP 4 rfl rfl (.one (.one (.one (.one .nil))))) rfl ?_ | refine G.v (rv_loadP 5 rfl rfl (.one (.one (.one (.one .nil))))) rfl ?_ | refine G.v (rv_loadP 6 rfl rfl (.one (.one (.one (.one .nil))))) rfl ?_)
      refine G.op (og_callV rfl rfl (fun w _ => soverlap_ints _ _ _ _ _ _ _ _ _ _ _ _ _ _ _ _ w)) rfl (fun _ _ => ?_)
      refine G.v (rv_neqb rfl rfl) rfl ?_
      refine G.v (rv_move rfl) rfl ?_
      all_goals (((with_reducible refine G.gP rfl rfl (fun hg => ?_) (fun hg => ?_)) <;> (try exact Bool.noConfusion hg) <;> (first | (refine G.gY rfl rfl ?_; refine G.v (rv_move rfl) rfl ?_) | refine G.gN rfl rfl rfl ?_ | refine G.gU rfl rfl rfl ?_)))
      all_goals ((first | (refine G.gY rfl rfl ?_; (first | refine G.v (rv_loadW 0 rfl rfl rfl) rfl ?_ | refine G.v (rv_loadW 1 rfl rfl rfl) rfl ?_ | refine G.v (rv_loadW 2 rfl rfl rfl) rfl ?_ | refine G.v (rv_loadW 3 rfl rfl rfl) rfl ?_ | refine G.v (rv_loadW 4 rfl rfl rfl) rfl ?_ | refine G.v (rv_loadW 5 rfl rfl rfl) rfl ?_ | refine G.v (rv_loadW 6 rfl rfl rfl) rfl ?_ | refine G.v (rv_loadP 0 rfl rfl (.one (.one (.one (.one .nil))))) rfl ?_ | refine G.v (rv_loadP 1 rfl rfl (.one (.one (.one (.one .nil))))) rfl ?_ | refine G.v (rv_loadP 2 rfl rfl (.one (.one (.one (.one .nil))))) rfl ?_ | refine G.v (rv_loadP 3 rfl rfl (.one (.one (.one (.one .nil))))) rfl ?_ | refine G.v (rv_loadP 4 rfl rfl (.one (.one (.one (.one .nil))))) rfl ?_ | refine G.v (rv_loadP 5 rfl rfl (.one (.one (.one (.one .nil))))) rfl ?_ | refine G.v (rv_loadP 6 rfl rfl (.one (.one (.one (.one .nil))))) rfl ?_)) | refine G.gN rfl rfl rfl ?_ | refine G.gU rfl rfl rfl ?_))
      all_goals ((first | (refine G.gY rfl rfl ?_; (first | refine G.v (rv_loadW 0 rfl rfl rfl) rfl ?_ | refine G.v (rv_loadW 1 rfl rfl rfl) rfl ?_ | refine G.v (rv_loadW 2 rfl rfl rfl) rfl ?_ | refine G.v (rv_loadW 3 rfl rfl rfl) rfl ?_ | refine G.v (rv_loadW 4 rfl rfl rfl) rfl ?_ | refine G.v (rv_loadW 5 rfl rfl rfl) rfl ?_ | refine G.v (rv_loadW 6 rfl rfl rfl) rfl ?_ | refine G.v (rv_loadP 0 rfl rfl (.one (.one (.one (.one .nil))))) rfl ?_ | refine G.v (rv_loadP 1 rfl rfl (.one (.one (.one (.one .nil))))) rfl ?_ | refine G.v (rv_loadP 2 rfl rfl (.one (.one (.one (.one .nil))))) rfl ?_ | refine G.v (rv_loadP 3 rfl rfl (.one (.one (.one (.one .nil))))) rfl ?_ | refine G.v (rv_loadP 4 rfl rfl (.one (.one (.one (.one .nil))))) rfl ?_ | refine G.v (rv_loadP 5 rfl rfl (.one (.one (.one (.one .nil))))) rfl ?_ | refine G.v (rv_loadP 6 rfl rfl (.one (.one (.one (.one .nil))))) rfl ?_)) | refine G.gN rfl rfl rfl ?_ | refine G.gU rfl rfl rfl ?_))
      all_goals ((first | (refine G.gY rfl rfl ?_; (first | refine G.v (rv_loadW 0 rfl rfl rfl) rfl ?_ | refine G.v (rv_loadW 1 rfl rfl rfl) rfl ?_ | refine G.v (rv_loadW 2 rfl rfl rfl) rfl ?_ | refine G.v (rv_loadW 3 rfl rfl rfl) rfl ?_ | refine G.v (rv_loadW 4 rfl rfl rfl) rfl ?_ | refine G.v (rv_loadW 5 rfl rfl rfl) rfl ?_ | refine G.v (rv_loadW 6 rfl rfl rfl) rfl ?_ | refine G.v (rv_loadP 0 rfl rfl (.one (.one (.one (.one .nil))))) rfl ?_ | refine G.v (rv_loadP 1 rfl rfl (.one (.one (.one (.one .nil))))) rfl ?_ | refine G.v (rv_loadP 2 rfl rfl (.one (.one (.one (.one .nil))))) rfl ?_ | refine G.v (rv_loadP 3 rfl rfl (.one (.one (.one (.one .nil))))) rfl ?_ | refine G.v (rv_loadP 4 rfl rfl (.one (.one (.one (.one .nil))))) rfl ?_ | refine G.v (rv_loadP 5 rfl rfl (.one (.one (.one (.one .nil))))) rfl ?_ | refine G.v (rv_loadP 6 rfl rfl (.one (.one (.one (.one .nil))))) rfl ?_)) | refine G.gN rfl rfl rfl ?_ | refine G.gU rfl rfl rfl ?_))
      all_goals ((first | (refine G.gY rfl rfl ?_; (first | refine G.v (rv_loadW 0 rfl rfl rfl) rfl ?_ | refine G.v (rv_loadW 1 rfl rfl rfl) rfl ?_ | refine G.v (rv_loadW 2 rfl rfl rfl) rfl ?_ | refine G.v (rv_loadW 3 rfl rfl rfl) rfl ?_ | refine G.v (rv_loadW 4 rfl rfl rfl) rfl ?_ | refine G.v (rv_loadW 5 rfl rfl rfl) rfl ?_ | refine G.v (rv_loadW 6 rfl rfl rfl) rfl ?_ | refine G.v (rv_loadP 0 rfl rfl (.one (.one (.one (.one .nil))))) rfl ?_ | refine G.v (rv_loadP 1 rfl rfl (.one (.one (.one (.one .nil))))) rfl ?_ | refine G.v (rv_loadP 2 rfl rfl (.one (.one (.one (.one .nil))))) rfl ?_ | refine G.v (rv_loadP 3 rfl rfl (.one (.one (.one (.one .nil))))) rfl ?_ | refine G.v (rv_loadP 4 rfl rfl (.one (.one (.one (.one .nil))))) rfl ?_ | refine G.v (rv_loadP 5 rfl rfl (.one (.one (.one (.one .nil))))) rfl ?_ | refine G.v (rv_loadP 6 rfl rfl (.one (.one (.one (.one .nil))))) rfl ?_)) | refine G.gN rfl rfl rfl ?_ | refine G.gU rfl rfl rfl ?_))
      all_goals ((first | (refine G.gY rfl rfl ?_; refine G.op (og_callV rfl rfl (fun w _ => overlap_ints _ _ _ _ _ _ _ _ _ _ _ _ _ _ _ _ w)) rfl (fun _ _ => ?_)) | refine G.gN rfl rfl rfl ?_ | refine G.gU rfl rfl rfl ?_))
      all_goals ((first | (refine G.gY rfl rfl ?_; refine G.v (rv_neqb rfl rfl) rfl ?_) | refine G.gN rfl rfl rfl ?_ | refine G.gU rfl rfl rfl ?_))
      all_goals ((first | refine G.v (rv_pickT rfl rfl) rfl ?_ | refine G.v (rv_pickF rfl rfl) rfl ?_))
      all_goals
       refine G.done ?_
       refine G.thenN ?_
       refine G.cond rfl (fun hc => ?_) (fun hc => ?_)
       · try exact Bool.noConfusion hc
         all_goals
          try replace hc := of_decide_eq_true hc
          try (exfalso; first | contradiction | omega)
          all_goals
           refine G.seq ?_
           refine G.region ?_
           refine G.v (rv_assign rfl) rfl ?_
           refine G.done ?_
           refine G.thenN ?_
           refine G.ret ?_
           refine G.thenR ?_
           first | exact G.retFV rfl rfl rfl | (exfalso; rw [overlap_comm] at hc; simp at hc; done) | (exfalso; rw [overlap_comm] at hg; simp at hg; done) | (exfalso; simp at hc; done) | (exfalso; rw [overlap_comm] at hc; simp_all; done) | (have hop := overlap_point (bnot_false (by assumption)) (by first | exact not_lt1 (by assumption) | omega) (by first | exact not_lt1 (by assumption) | omega) (by first | exact not_lt1 (by assumption) | omega) (by first | exact not_lt1 (by assumption) | omega) (by first | exact not_lt1 (by assumption) | omega) (by first | exact not_lt1 (by assumption) | omega); first | exact G.retFV rfl rfl (congrArg Value.bool hop.2) | (exfalso; simp_all; done))
       · try exact Bool.noConfusion hc
         all_goals
          try replace hc := of_decide_eq_false hc
          try (exfalso; first | contradiction | omega)
          all_goals
           refine G.skip ?_
           refine G.thenN ?_
           refine G.seq ?_
           refine G.seq ?_
           refine G.region ?_
           refine G.v (rv_move rfl) rfl ?_
           refine G.v (rv_not rfl) rfl ?_
           refine G.done ?_
           refine G.thenN ?_
           refine G.cond rfl (fun hc => ?_) (fun hc => ?_)
           · try exact Bool.noConfusion hc
             all_goals
              try replace hc := of_decide_eq_true hc
              try (exfalso; first | contradiction | omega)
              all_goals
               refine G.seq ?_
               refine G.region ?_
               refine G.v (rv_assign rfl) rfl ?_
               refine G.done ?_
               refine G.thenN ?_
               refine G.ret ?_
               refine G.thenR ?_
               first | exact G.retFV rfl rfl rfl | (exfalso; rw [overlap_comm] at hc; simp at hc; done) | (exfalso; rw [overlap_comm] at hg; simp at hg; done) | (exfalso; simp at hc; done) | (exfalso; rw [overlap_comm] at hc; simp_all; done) | (have hop := overlap_point (bnot_false (by assumption)) (by first | exact not_lt1 (by assumption) | omega) (by first | exact not_lt1 (by assumption) | omega) (by first | exact not_lt1 (by assumption) | omega) (by first | exact not_lt1 (by assumption) | omega) (by first | exact not_lt1 (by assumption) | omega) (by first | exact not_lt1 (by assumption) | omega); first | exact G.retFV rfl rfl (congrArg Value.bool hop.2) | (exfalso; simp_all; done))
           · try exact Bool.noConfusion hc
             all_goals
              try replace hc := of_decide_eq_false hc
              try (exfalso; first | contradiction | omega)
              all_goals
               refine G.skip ?_
               refine G.thenN ?_
               refine G.seq ?_
               refine G.region ?_
               refine G.v (rv_build2 rfl (.cons rfl (.cons rfl (.cons rfl .nil))) (.cons rfl rfl (.zero (.cons .nil)) (.cons rfl rfl (.succ (.zero (.cons .nil))) (.cons rfl rfl (.succ (.succ (.zero (.cons .nil)))) .nil)))) rfl ?_
               refine G.op (og_alloc) rfl (fun bk8 _ => ?_)
               (first | refine G.op0 (og_st0 rfl rfl rfl rfl rfl rfl (.zero (.cons (.cons (.cons (.cons .nil)))))) (fun _ _ => ?_) | refine G.op0 (og_st1 rfl rfl rfl rfl rfl rfl (.zero (.cons (.cons (.cons (.cons .nil)))))) (fun _ _ => ?_) | refine G.op0 (og_st2 rfl rfl rfl rfl rfl rfl (.zero (.cons (.cons (.cons (.cons .nil)))))) (fun _ _ => ?_) | refine G.op0 (og_st3 rfl rfl rfl rfl rfl rfl (.zero (.cons (.cons (.cons (.cons .nil)))))) (fun _ _ => ?_) | refine G.op0 (og_st4 rfl rfl rfl rfl rfl rfl (.zero (.cons (.cons (.cons (.cons .nil)))))) (fun _ _ => ?_) | refine G.op0 (og_st5 rfl rfl rfl rfl rfl rfl (.zero (.cons (.cons (.cons (.cons .nil)))))) (fun _ _ => ?_) | refine G.op0 (og_st6 rfl rfl rfl rfl rfl rfl (.zero (.cons (.cons (.cons (.cons .nil)))))) (fun _ _ => ?_))
               refine G.done ?_
               refine G.thenN ?_
               refine G.seq ?_
               refine G.drawL [19] ?_
               (first | refine GE.q 0 rfl (by kernel_rfl) rfl (qg_runs (rv_field rfl)) rfl ?_ | refine GE.q 0 rfl (by kernel_rfl) rfl (qg_runs (rv_fieldE rfl)) rfl ?_)
               (first | refine GE.q 1 rfl (by kernel_rfl) rfl (qg_runs (rv_load1 0 rfl rfl rfl)) rfl ?_ | refine GE.q 1 rfl (by kernel_rfl) rfl (qg_runs (rv_load1 1 rfl rfl rfl)) rfl ?_ | refine GE.q 1 rfl (by kernel_rfl) rfl (qg_runs (rv_load1 2 rfl rfl rfl)) rfl ?_ | refine GE.q 1 rfl (by kernel_rfl) rfl (qg_runs (rv_load1 3 rfl rfl rfl)) rfl ?_ | refine GE.q 1 rfl (by kernel_rfl) rfl (qg_runs (rv_load1 4 rfl rfl rfl)) rfl ?_ | refine GE.q 1 rfl (by kernel_rfl) rfl (qg_runs (rv_load1 5 rfl rfl rfl)) rfl ?_ | refine GE.q 1 rfl (by kernel_rfl) rfl (qg_runs (rv_load1 6 rfl rfl rfl)) rfl ?_)
               (first | refine GE.q 2 rfl (by kernel_rfl) rfl (qg_runs (rv_field rfl)) rfl ?_ | refine GE.q 2 rfl (by kernel_rfl) rfl (qg_runs (rv_fieldE rfl)) rfl ?_)
               (first | refine GE.q 3 rfl (by kernel_rfl) rfl (qg_runs (rv_load1 0 rfl rfl rfl)) rfl ?_ | refine GE.q 3 rfl (by kernel_rfl) rfl (qg_runs (rv_load1 1 rfl rfl rfl)) rfl ?_ | refine GE.q 3 rfl (by kernel_rfl) rfl (qg_runs (rv_load1 2 rfl rfl rfl)) rfl ?_ | refine GE.q 3 rfl (by kernel_rfl) rfl (qg_runs (rv_load1 3 rfl rfl rfl)) rfl ?_ | refine GE.q 3 rfl (by kernel_rfl) rfl (qg_runs (rv_load1 4 rfl rfl rfl)) rfl ?_ | refine GE.q 3 rfl (by kernel_rfl) rfl (qg_runs (rv_load1 5 rfl rfl rfl)) rfl ?_ | refine GE.q 3 rfl (by kernel_rfl) rfl (qg_runs (rv_load1 6 rfl rfl rfl)) rfl ?_)
               (first | refine GE.q 4 rfl (by kernel_rfl) rfl (qg_runs (rv_field rfl)) rfl ?_ | refine GE.q 4 rfl (by kernel_rfl) rfl (qg_runs (rv_fieldE rfl)) rfl ?_)
               (first | refine GE.q 5 rfl (by kernel_rfl) rfl (qg_runs (rv_load1 0 rfl rfl rfl)) rfl ?_ | refine GE.q 5 rfl (by kernel_rfl) rfl (qg_runs (rv_load1 1 rfl rfl rfl)) rfl ?_ | refine GE.q 5 rfl (by kernel_rfl) rfl (qg_runs (rv_load1 2 rfl rfl rfl)) rfl ?_ | refine GE.q 5 rfl (by kernel_rfl) rfl (qg_runs (rv_load1 3 rfl rfl rfl)) rfl ?_ | refine GE.q 5 rfl (by kernel_rfl) rfl (qg_runs (rv_load1 4 rfl rfl rfl)) rfl ?_ | refine GE.q 5 rfl (by kernel_rfl) rfl (qg_runs (rv_load1 5 rfl rfl rfl)) rfl ?_ | refine GE.q 5 rfl (by kernel_rfl) rfl (qg_runs (rv_load1 6 rfl rfl rfl)) rfl ?_)
               refine GE.q 6 rfl (by kernel_rfl) rfl (qg_call rfl rfl (fun w _ => most_any _ _ w)) rfl ?_
               (first | refine GE.q 7 rfl (by kernel_rfl) rfl (qg_runs (rv_field rfl)) rfl ?_ | refine GE.q 7 rfl (by kernel_rfl) rfl (qg_runs (rv_fieldE rfl)) rfl ?_)
               (first | refine GE.q 8 rfl (by kernel_rfl) rfl (qg_runs (rv_load1 0 rfl rfl rfl)) rfl ?_ | refine GE.q 8 rfl (by kernel_rfl) rfl (qg_runs (rv_load1 1 rfl rfl rfl)) rfl ?_ | refine GE.q 8 rfl (by kernel_rfl) rfl (qg_runs (rv_load1 2 rfl rfl rfl)) rfl ?_ | refine GE.q 8 rfl (by kernel_rfl) rfl (qg_runs (rv_load1 3 rfl rfl rfl)) rfl ?_ | refine GE.q 8 rfl (by kernel_rfl) rfl (qg_runs (rv_load1 4 rfl rfl rfl)) rfl ?_ | refine GE.q 8 rfl (by kernel_rfl) rfl (qg_runs (rv_load1 5 rfl rfl rfl)) rfl ?_ | refine GE.q 8 rfl (by kernel_rfl) rfl (qg_runs (rv_load1 6 rfl rfl rfl)) rfl ?_)
               (first | refine GE.q 9 rfl (by kernel_rfl) rfl (qg_runs (rv_field rfl)) rfl ?_ | refine GE.q 9 rfl (by kernel_rfl) rfl (qg_runs (rv_fieldE rfl)) rfl ?_)
               (first | refine GE.q 10 rfl (by kernel_rfl) rfl (qg_runs (rv_load1 0 rfl rfl rfl)) rfl ?_ | refine GE.q 10 rfl (by kernel_rfl) rfl (qg_runs (rv_load1 1 rfl rfl rfl)) rfl ?_ | refine GE.q 10 rfl (by kernel_rfl) rfl (qg_runs (rv_load1 2 rfl rfl rfl)) rfl ?_ | refine GE.q 10 rfl (by kernel_rfl) rfl (qg_runs (rv_load1 3 rfl rfl rfl)) rfl ?_ | refine GE.q 10 rfl (by kernel_rfl) rfl (qg_runs (rv_load1 4 rfl rfl rfl)) rfl ?_ | refine GE.q 10 rfl (by kernel_rfl) rfl (qg_runs (rv_load1 5 rfl rfl rfl)) rfl ?_ | refine GE.q 10 rfl (by kernel_rfl) rfl (qg_runs (rv_load1 6 rfl rfl rfl)) rfl ?_)
               refine GE.q 11 rfl (by kernel_rfl) rfl (qg_call rfl rfl (fun w _ => most_any _ _ w)) rfl ?_
               (first | refine GE.q 12 rfl (by kernel_rfl) rfl (qg_runs (rv_field rfl)) rfl ?_ | refine GE.q 12 rfl (by kernel_rfl) rfl (qg_runs (rv_fieldE rfl)) rfl ?_)
               (first | refine GE.q 13 rfl (by kernel_rfl) rfl (qg_runs (rv_load1 0 rfl rfl rfl)) rfl ?_ | refine GE.q 13 rfl (by kernel_rfl) rfl (qg_runs (rv_load1 1 rfl rfl rfl)) rfl ?_ | refine GE.q 13 rfl (by kernel_rfl) rfl (qg_runs (rv_load1 2 rfl rfl rfl)) rfl ?_ | refine GE.q 13 rfl (by kernel_rfl) rfl (qg_runs (rv_load1 3 rfl rfl rfl)) rfl ?_ | refine GE.q 13 rfl (by kernel_rfl) rfl (qg_runs (rv_load1 4 rfl rfl rfl)) rfl ?_ | refine GE.q 13 rfl (by kernel_rfl) rfl (qg_runs (rv_load1 5 rfl rfl rfl)) rfl ?_ | refine GE.q 13 rfl (by kernel_rfl) rfl (qg_runs (rv_load1 6 rfl rfl rfl)) rfl ?_)
               (first | refine GE.q 14 rfl (by kernel_rfl) rfl (qg_runs (rv_field rfl)) rfl ?_ | refine GE.q 14 rfl (by kernel_rfl) rfl (qg_runs (rv_fieldE rfl)) rfl ?_)
               (first | refine GE.q 15 rfl (by kernel_rfl) rfl (qg_runs (rv_load1 0 rfl rfl rfl)) rfl ?_ | refine GE.q 15 rfl (by kernel_rfl) rfl (qg_runs (rv_load1 1 rfl rfl rfl)) rfl ?_ | refine GE.q 15 rfl (by kernel_rfl) rfl (qg_runs (rv_load1 2 rfl rfl rfl)) rfl ?_ | refine GE.q 15 rfl (by kernel_rfl) rfl (qg_runs (rv_load1 3 rfl rfl rfl)) rfl ?_ | refine GE.q 15 rfl (by kernel_rfl) rfl (qg_runs (rv_load1 4 rfl rfl rfl)) rfl ?_ | refine GE.q 15 rfl (by kernel_rfl) rfl (qg_runs (rv_load1 5 rfl rfl rfl)) rfl ?_ | refine GE.q 15 rfl (by kernel_rfl) rfl (qg_runs (rv_load1 6 rfl rfl rfl)) rfl ?_)
               refine GE.q 16 rfl (by kernel_rfl) rfl (qg_call rfl rfl (fun w _ => most_any _ _ w)) rfl ?_
               refine GE.q 17 rfl (by kernel_rfl) rfl (qg_runs (rv_build2 rfl (.cons rfl (.cons rfl (.cons rfl (.cons rfl .nil)))) (.cons rfl rfl (.zero (.cons .nil)) (.cons rfl rfl (.succ (.zero (.cons .nil))) (.cons rfl rfl (.succ (.succ (.zero (.cons .nil)))) (.cons rfl rfl (.succ (.succ (.succ (.zero (.cons .nil))))) .nil)))))) rfl ?_
               refine GE.ol 18 (by kernel_rfl) rfl rfl (og_alloc) rfl (fun _ _ h => by first | exact h | exact h.drop 1 | exact h.drop 2 | exact h.drop 3 | exact h.drop 4 | exact h.drop 5) (fun bk9 _ => ?_)
               (first | refine GE.t0 19 (by kernel_rfl) rfl rfl rfl (og_st0 rfl rfl rfl rfl rfl rfl (.zero (.cons (.cons (.cons (.cons .nil)))))) (fun _ _ => ?_) | refine GE.t0 19 (by kernel_rfl) rfl rfl rfl (og_st1 rfl rfl rfl rfl rfl rfl (.zero (.cons (.cons (.cons (.cons .nil)))))) (fun _ _ => ?_) | refine GE.t0 19 (by kernel_rfl) rfl rfl rfl (og_st2 rfl rfl rfl rfl rfl rfl (.zero (.cons (.cons (.cons (.cons .nil)))))) (fun _ _ => ?_) | refine GE.t0 19 (by kernel_rfl) rfl rfl rfl (og_st3 rfl rfl rfl rfl rfl rfl (.zero (.cons (.cons (.cons (.cons .nil)))))) (fun _ _ => ?_) | refine GE.t0 19 (by kernel_rfl) rfl rfl rfl (og_st4 rfl rfl rfl rfl rfl rfl (.zero (.cons (.cons (.cons (.cons .nil)))))) (fun _ _ => ?_) | refine GE.t0 19 (by kernel_rfl) rfl rfl rfl (og_st5 rfl rfl rfl rfl rfl rfl (.zero (.cons (.cons (.cons (.cons .nil)))))) (fun _ _ => ?_) | refine GE.t0 19 (by kernel_rfl) rfl rfl rfl (og_st6 rfl rfl rfl rfl rfl rfl (.zero (.cons (.cons (.cons (.cons .nil)))))) (fun _ _ => ?_))
               refine GE.done (by kernel_rfl) ?_
               refine G.thenN ?_
               refine G.seq ?_
               refine G.seq ?_
               refine G.region ?_
               (first | refine G.v (rv_field rfl) rfl ?_ | refine G.v (rv_fieldE rfl) rfl ?_)
               (first | refine G.v (rv_load1 0 rfl rfl rfl) rfl ?_ | refine G.v (rv_load1 1 rfl rfl rfl) rfl ?_ | refine G.v (rv_load1 2 rfl rfl rfl) rfl ?_ | refine G.v (rv_load1 3 rfl rfl rfl) rfl ?_ | refine G.v (rv_load1 4 rfl rfl rfl) rfl ?_ | refine G.v (rv_load1 5 rfl rfl rfl) rfl ?_ | refine G.v (rv_load1 6 rfl rfl rfl) rfl ?_)
               refine G.v (rv_lss rfl rfl) rfl ?_
               refine G.v (rv_move rfl) rfl ?_
               all_goals (((with_reducible refine G.gP rfl rfl (fun hg => ?_) (fun hg => ?_)) <;> (try exact Bool.noConfusion hg) <;> (first | (refine G.gY rfl rfl ?_; (first | refine G.v (rv_field rfl) rfl ?_ | refine G.v (rv_fieldE rfl) rfl ?_)) | refine G.gN rfl rfl rfl ?_ | refine G.gU rfl rfl rfl ?_)))
               all_goals ((first | (refine G.gY rfl rfl ?_; (first | refine G.v (rv_load1 0 rfl rfl rfl) rfl ?_ | refine G.v (rv_load1 1 rfl rfl rfl) rfl ?_ | refine G.v (rv_load1 2 rfl rfl rfl) rfl ?_ | refine G.v (rv_load1 3 rfl rfl rfl) rfl ?_ | refine G.v (rv_load1 4 rfl rfl rfl) rfl ?_ | refine G.v (rv_load1 5 rfl rfl rfl) rfl ?_ | refine G.v (rv_load1 6 rfl rfl rfl) rfl ?_)) | refine G.gN rfl rfl rfl ?_ | refine G.gU rfl rfl rfl ?_))
               all_goals ((first | (refine G.gY rfl rfl ?_; refine G.v (rv_lss rfl rfl) rfl ?_) | refine G.gN rfl rfl rfl ?_ | refine G.gU rfl rfl rfl ?_))
               all_goals ((first | refine G.v (rv_pickT rfl rfl) rfl ?_ | refine G.v (rv_pickF rfl rfl) rfl ?_))
               all_goals (refine G.v (rv_move rfl) rfl ?_)
               all_goals (((with_reducible refine G.gP rfl rfl (fun hg => ?_) (fun hg => ?_)) <;> (try exact Bool.noConfusion hg) <;> (first | (refine G.gY rfl rfl ?_; (first | refine G.v (rv_field rfl) rfl ?_ | refine G.v (rv_fieldE rfl) rfl ?_)) | refine G.gN rfl rfl rfl ?_ | refine G.gU rfl rfl rfl ?_)))
               all_goals ((first | (refine G.gY rfl rfl ?_; (first | refine G.v (rv_load1 0 rfl rfl rfl) rfl ?_ | refine G.v (rv_load1 1 rfl rfl rfl) rfl ?_ | refine G.v (rv_load1 2 rfl rfl rfl) rfl ?_ | refine G.v (rv_load1 3 rfl rfl rfl) rfl ?_ | refine G.v (rv_load1 4 rfl rfl rfl) rfl ?_ | refine G.v (rv_load1 5 rfl rfl rfl) rfl ?_ | refine G.v (rv_load1 6 rfl rfl rfl) rfl ?_)) | refine G.gN rfl rfl rfl ?_ | refine G.gU rfl rfl rfl ?_))
               all_goals ((first | (refine G.gY rfl rfl ?_; refine G.v (rv_lss rfl rfl) rfl ?_) | refine G.gN rfl rfl rfl ?_ | refine G.gU rfl rfl rfl ?_))
               all_goals ((first | refine G.v (rv_pickT rfl rfl) rfl ?_ | refine G.v (rv_pickF rfl rfl) rfl ?_))
               all_goals (refine G.v (rv_move rfl) rfl ?_)
               all_goals (((with_reducible refine G.gP rfl rfl (fun hg => ?_) (fun hg => ?_)) <;> (try exact Bool.noConfusion hg) <;> (first | (refine G.gY rfl rfl ?_; (first | refine G.v (rv_field rfl) rfl ?_ | refine G.v (rv_fieldE rfl) rfl ?_)) | refine G.gN rfl rfl rfl ?_ | refine G.gU rfl rfl rfl ?_)))
               all_goals ((first | (refine G.gY rfl rfl ?_; (first | refine G.v (rv_load1 0 rfl rfl rfl) rfl ?_ | refine G.v (rv_load1 1 rfl rfl rfl) rfl ?_ | refine G.v (rv_load1 2 rfl rfl rfl) rfl ?_ | refine G.v (rv_load1 3 rfl rfl rfl) rfl ?_ | refine G.v (rv_load1 4 rfl rfl rfl) rfl ?_ | refine G.v (rv_load1 5 rfl rfl rfl) rfl ?_ | refine G.v (rv_load1 6 rfl rfl rfl) rfl ?_)) | refine G.gN rfl rfl rfl ?_ | refine G.gU rfl rfl rfl ?_))
               all_goals ((first | (refine G.gY rfl rfl ?_; refine G.v (rv_lss rfl rfl) rfl ?_) | refine G.gN rfl rfl rfl ?_ | refine G.gU rfl rfl rfl ?_))
               all_goals ((first | refine G.v (rv_pickT rfl rfl) rfl ?_ | refine G.v (rv_pickF rfl rfl) rfl ?_))
               all_goals (refine G.v (rv_move rfl) rfl ?_)
               all_goals (((with_reducible refine G.gP rfl rfl (fun hg => ?_) (fun hg => ?_)) <;> (try exact Bool.noConfusion hg) <;> (first | (refine G.gY rfl rfl ?_; (first | refine G.v (rv_field rfl) rfl ?_ | refine G.v (rv_fieldE rfl) rfl ?_)) | refine G.gN rfl rfl rfl ?_ | refine G.gU rfl rfl rfl ?_)))
               all_goals ((first | (refine G.gY rfl rfl ?_; (first | refine G.v (rv_load1 0 rfl rfl rfl) rfl ?_ | refine G.v (rv_load1 1 rfl rfl rfl) rfl ?_ | refine G.v (rv_load1 2 rfl rfl rfl) rfl ?_ | refine G.v (rv_load1 3 rfl rfl rfl) rfl ?_ | refine G.v (rv_load1 4 rfl rfl rfl) rfl ?_ | refine G.v (rv_load1 5 rfl rfl rfl) rfl ?_ | refine G.v (rv_load1 6 rfl rfl rfl) rfl ?_)) | refine G.gN rfl rfl rfl ?_ | refine G.gU rfl rfl rfl ?_))
               all_goals ((first | (refine G.gY rfl rfl ?_; refine G.v (rv_lss rfl rfl) rfl ?_) | refine G.gN rfl rfl rfl ?_ | refine G.gU rfl rfl rfl ?_))
               all_goals ((first | refine G.v (rv_pickT rfl rfl) rfl ?_ | refine G.v (rv_pickF rfl rfl) rfl ?_))
               all_goals (refine G.v (rv_move rfl) rfl ?_)
               all_goals (((with_reducible refine G.gP rfl rfl (fun hg => ?_) (fun hg => ?_)) <;> (try exact Bool.noConfusion hg) <;> (first | (refine G.gY rfl rfl ?_; (first | refine G.v (rv_field rfl) rfl ?_ | refine G.v (rv_fieldE rfl) rfl ?_)) | refine G.gN rfl rfl rfl ?_ | refine G.gU rfl rfl rfl ?_)))
               all_goals ((first | (refine G.gY rfl rfl ?_; (first | refine G.v (rv_load1 0 rfl rfl rfl) rfl ?_ | refine G.v (rv_load1 1 rfl rfl rfl) rfl ?_ | refine G.v (rv_load1 2 rfl rfl rfl) rfl ?_ | refine G.v (rv_load1 3 rfl rfl rfl) rfl ?_ | refine G.v (rv_load1 4 rfl rfl rfl) rfl ?_ | refine G.v (rv_load1 5 rfl rfl rfl) rfl ?_ | refine G.v (rv_load1 6 rfl rfl rfl) rfl ?_)) | refine G.gN rfl rfl rfl ?_ | refine G.gU rfl rfl rfl ?_))
               all_goals ((first | (refine G.gY rfl rfl ?_; refine G.v (rv_lss rfl rfl) rfl ?_) | refine G.gN rfl rfl rfl ?_ | refine G.gU rfl rfl rfl ?_))
               all_goals ((first | refine G.v (rv_pickT rfl rfl) rfl ?_ | refine G.v (rv_pickF rfl rfl) rfl ?_))
               all_goals
                refine G.done ?_
                refine G.thenN ?_
                refine G.cond rfl (fun hc => ?_) (fun hc => ?_)
                · try exact Bool.noConfusion hc
                  all_goals
                   try replace hc := of_decide_eq_true hc
                   try (exfalso; first | contradiction | omega)
                   all_goals
                    refine G.seq ?_
                    refine G.region ?_
                    refine G.v (rv_assign rfl) rfl ?_
                    refine G.done ?_
                    refine G.thenN ?_
                    refine G.ret ?_
                    refine G.thenR ?_
                    first | exact G.retFV rfl rfl rfl | (exfalso; rw [overlap_comm] at hc; simp at hc; done) | (exfalso; rw [overlap_comm] at hg; simp at hg; done) | (exfalso; simp at hc; done) | (exfalso; rw [overlap_comm] at hc; simp_all; done) | (have hop := overlap_point (bnot_false (by assumption)) (by first | exact not_lt1 (by assumption) | omega) (by first | exact not_lt1 (by assumption) | omega) (by first | exact not_lt1 (by assumption) | omega) (by first | exact not_lt1 (by assumption) | omega) (by first | exact not_lt1 (by assumption) | omega) (by first | exact not_lt1 (by assumption) | omega); first | exact G.retFV rfl rfl (congrArg Value.bool hop.2) | (exfalso; simp_all; done))
                · try exact Bool.noConfusion hc
                  all_goals
                   try replace hc := of_decide_eq_false hc
                   try (exfalso; first | contradiction | omega)
                   all_goals
                    refine G.skip ?_
                    refine G.thenN ?_
                    refine G.seq ?_
                    refine G.region ?_
                    (first | refine G.v (rv_loadW 0 rfl rfl rfl) rfl ?_ | refine G.v (rv_loadW 1 rfl rfl rfl) rfl ?_ | refine G.v (rv_loadW 2 rfl rfl rfl) rfl ?_ | refine G.v (rv_loadW 3 rfl rfl rfl) rfl ?_ | refine G.v (rv_loadW 4 rfl rfl rfl) rfl ?_ | refine G.v (rv_loadW 5 rfl rfl rfl) rfl ?_ | refine G.v (rv_loadW 6 rfl rfl rfl) rfl ?_ | refine G.v (rv_loadP 0 rfl rfl (.one (.one (.one (.one .nil))))) rfl ?_ | refine G.v (rv_loadP 1 rfl rfl (.one (.one (.one (.one .nil))))) rfl ?_ | refine G.v (rv_loadP 2 rfl rfl (.one (.one (.one (.one .nil))))) rfl ?_ | refine G.v (rv_loadP 3 rfl rfl (.one (.one (.one (.one .nil))))) rfl ?_ | refine G.v (rv_loadP 4 rfl rfl (.one (.one (.one (.one .nil))))) rfl ?_ | refine G.v (rv_loadP 5 rfl rfl (.one (.one (.one (.one .nil))))) rfl ?_ | refine G.v (rv_loadP 6 rfl rfl (.one (.one (.one (.one .nil))))) rfl ?_)
                    (first | refine G.v (rv_loadW 0 rfl rfl rfl) rfl ?_ | refine G.v (rv_loadW 1 rfl rfl rfl) rfl ?_ | refine G.v (rv_loadW 2 rfl rfl rfl) rfl ?_ | refine G.v (rv_loadW 3 rfl rfl rfl) rfl ?_ | refine G.v (rv_loadW 4 rfl rfl rfl) rfl ?_ | refine G.v (rv_loadW 5 rfl rfl rfl) rfl ?_ | refine G.v (rv_loadW 6 rfl rfl rfl) rfl ?_ | refine G.v (rv_loadP 0 rfl rfl (.one (.one (.one (.one .nil))))) rfl ?_ | refine G.v (rv_loadP 1 rfl rfl (.one (.one (.one (.one .nil))))) rfl ?_ | refine G.v (rv_loadP 2 rfl rfl (.one (.one (.one (.one .nil))))) rfl ?_ | refine G.v (rv_loadP 3 rfl rfl (.one (.one (.one (.one .nil))))) rfl ?_ | refine G.v (rv_loadP 4 rfl rfl (.one (.one (.one (.one .nil))))) rfl ?_ | refine G.v (rv_loadP 5 rfl rfl (.one (.one (.one (.one .nil))))) rfl ?_ | refine G.v (rv_loadP 6 rfl rfl (.one (.one (.one (.one .nil))))) rfl ?_)
                    (first | refine G.v (rv_loadW 0 rfl rfl rfl) rfl ?_ | refine G.v (rv_loadW 1 rfl rfl rfl) rfl ?_ | refine G.v (rv_loadW 2 rfl rfl rfl) rfl ?_ | refine G.v (rv_loadW 3 rfl rfl rfl) rfl ?_ | refine G.v (rv_loadW 4 rfl rfl rfl) rfl ?_ | refine G.v (rv_loadW 5 rfl rfl rfl) rfl ?_ | refine G.v (rv_loadW 6 rfl rfl rfl) rfl ?_ | refine G.v (rv_loadP 0 rfl rfl (.one (.one (.one (.one .nil))))) rfl ?_ | refine G.v (rv_loadP 1 rfl rfl (.one (.one (.one (.one .nil))))) rfl ?_ | refine G.v (rv_loadP 2 rfl rfl (.one (.one (.one (.one .nil))))) rfl ?_ | refine G.v (rv_loadP 3 rfl rfl (.one (.one (.one (.one .nil))))) rfl ?_ | refine G.v (rv_loadP 4 rfl rfl (.one (.one (.one (.one .nil))))) rfl ?_ | refine G.v (rv_loadP 5 rfl rfl (.one (.one (.one (.one .nil))))) rfl ?_ | refine G.v (rv_loadP 6 rfl rfl (.one (.one (.one (.one .nil))))) rfl ?_)
                    (first | refine G.v (rv_loadW 0 rfl rfl rfl) rfl ?_ | refine G.v (rv_loadW 1 rfl rfl rfl) rfl ?_ | refine G.v (rv_loadW 2 rfl rfl rfl) rfl ?_ | refine G.v (rv_loadW 3 rfl rfl rfl) rfl ?_ | refine G.v (rv_loadW 4 rfl rfl rfl) rfl ?_ | refine G.v (rv_loadW 5 rfl rfl rfl) rfl ?_ | refine G.v (rv_loadW 6 rfl rfl rfl) rfl ?_ | refine G.v (rv_loadP 0 rfl rfl (.one (.one (.one (.one .nil))))) rfl ?_ | refine G.v (rv_loadP 1 rfl rfl (.one (.one (.one (.one .nil))))) rfl ?_ | refine G.v (rv_loadP 2 rfl rfl (.one (.one (.one (.one .nil))))) rfl ?_ | refine G.v (rv_loadP 3 rfl rfl (.one (.one (.one (.one .nil))))) rfl ?_ | refine G.v (rv_loadP 4 rfl rfl (.one (.one (.one (.one .nil))))) rfl ?_ | refine G.v (rv_loadP 5 rfl rfl (.one (.one (.one (.one .nil))))) rfl ?_ | refine G.v (rv_loadP 6 rfl rfl (.one (.one (.one (.one .nil))))) rfl ?_)
                    refine G.op (og_callV rfl rfl (fun w _ => overlap_ints _ _ _ _ _ _ _ _ _ _ _ _ _ _ _ _ w)) rfl (fun _ _ => ?_)
                    refine G.v (rv_move rfl) rfl ?_
                    all_goals (((with_reducible refine G.gP rfl rfl (fun hg => ?_) (fun hg => ?_)) <;> (try exact Bool.noConfusion hg) <;> (first | (refine G.gY rfl rfl ?_; (first | refine G.v (rv_loadW 0 rfl rfl rfl) rfl ?_ | refine G.v (rv_loadW 1 rfl rfl rfl) rfl ?_ | refine G.v (rv_loadW 2 rfl rfl rfl) rfl ?_ | refine G.v (rv_loadW 3 rfl rfl rfl) rfl ?_ | refine G.v (rv_loadW 4 rfl rfl rfl) rfl ?_ | refine G.v (rv_loadW 5 rfl rfl rfl) rfl ?_ | refine G.v (rv_loadW 6 rfl rfl rfl) rfl ?_ | refine G.v (rv_loadP 0 rfl rfl (.one (.one (.one (.one .nil))))) rfl ?_ | refine G.v (rv_loadP 1 rfl rfl (.one (.one (.one (.one .nil))))) rfl ?_ | refine G.v (rv_loadP 2 rfl rfl (.one (.one (.one (.one .nil))))) rfl ?_ | refine G.v (rv_loadP 3 rfl rfl (.one (.one (.one (.one .nil))))) rfl ?_ | refine G.v (rv_loadP 4 rfl rfl (.one (.one (.one (.one .nil))))) rfl ?_ | refine G.v (rv_loadP 5 rfl rfl (.one (.one (.one (.one .nil))))) rfl ?_ | refine G.v (rv_loadP 6 rfl rfl (.one (.one (.one (.one .nil))))) rfl ?_)) | refine G.gN rfl rfl rfl ?_ | refine G.gU rfl rfl rfl ?_)))
                    all_goals ((first | (refine G.gY rfl rfl ?_; (first | refine G.v (rv_loadW 0 rfl rfl rfl) rfl ?_ | refine G.v (rv_loadW 1 rfl rfl rfl) rfl ?_ | refine G.v (rv_loadW 2 rfl rfl rfl) rfl ?_ | refine G.v (rv_loadW 3 rfl rfl rfl) rfl ?_ | refine G.v (rv_loadW 4 rfl rfl rfl) rfl ?_ | refine G.v (rv_loadW 5 rfl rfl rfl) rfl ?_ | refine G.v (rv_loadW 6 rfl rfl rfl) rfl ?_ | refine G.v (rv_loadP 0 rfl rfl (.one (.one (.one (.one .nil))))) rfl ?_ | refine G.v (rv_loadP 1 rfl rfl (.one (.one (.one (.one .nil))))) rfl ?_ | refine G.v (rv_loadP 2 rfl rfl (.one (.one (.one (.one .nil))))) rfl ?_ | refine G.v (rv_loadP 3 rfl rfl (.one (.one (.one (.one .nil))))) rfl ?_ | refine G.v (rv_loadP 4 rfl rfl (.one (.one (.one (.one .nil))))) rfl ?_ | refine G.v (rv_loadP 5 rfl rfl (.one (.one (.one (.one .nil))))) rfl ?_ | refine G.v (rv_loadP 6 rfl rfl (.one (.one (.one (.one .nil))))) rfl ?_)) | refine G.gN rfl rfl rfl ?_ | refine G.gU rfl rfl rfl ?_))
                    all_goals ((first | (refine G.gY rfl rfl ?_; (first | refine G.v (rv_loadW 0 rfl rfl rfl) rfl ?_ | refine G.v (rv_loadW 1 rfl rfl rfl) rfl ?_ | refine G.v (rv_loadW 2 rfl rfl rfl) rfl ?_ | refine G.v (rv_loadW 3 rfl rfl rfl) rfl ?_ | refine G.v (rv_loadW 4 rfl rfl rfl) rfl ?_ | refine G.v (rv_loadW 5 rfl rfl rfl) rfl ?_ | refine G.v (rv_loadW 6 rfl rfl rfl) rfl ?_ | refine G.v (rv_loadP 0 rfl rfl (.one (.one (.one (.one .nil))))) rfl ?_ | refine G.v (rv_loadP 1 rfl rfl (.one (.one (.one (.one .nil))))) rfl ?_ | refine G.v (rv_loadP 2 rfl rfl (.one (.one (.one (.one .nil))))) rfl ?_ | refine G.v (rv_loadP 3 rfl rfl (.one (.one (.one (.one .nil))))) rfl ?_ | refine G.v (rv_loadP 4 rfl rfl (.one (.one (.one (.one .nil))))) rfl ?_ | refine G.v (rv_loadP 5 rfl rfl (.one (.one (.one (.one .nil))))) rfl ?_ | refine G.v (rv_loadP 6 rfl rfl (.one (.one (.one (.one .nil))))) rfl ?_)) | refine G.gN rfl rfl rfl ?_ | refine G.gU rfl rfl rfl ?_))
                    all_goals ((first | (refine G.gY rfl rfl ?_; (first | refine G.v (rv_loadW 0 rfl rfl rfl) rfl ?_ | refine G.v (rv_loadW 1 rfl rfl rfl) rfl ?_ | refine G.v (rv_loadW 2 rfl rfl rfl) rfl ?_ | refine G.v (rv_loadW 3 rfl rfl rfl) rfl ?_ | refine G.v (rv_loadW 4 rfl rfl rfl) rfl ?_ | refine G.v (rv_loadW 5 rfl rfl rfl) rfl ?_ | refine G.v (rv_loadW 6 rfl rfl rfl) rfl ?_ | refine G.v (rv_loadP 0 rfl rfl (.one (.one (.one (.one .nil))))) rfl ?_ | refine G.v (rv_loadP 1 rfl rfl (.one (.one (.one (.one .nil))))) rfl ?_ | refine G.v (rv_loadP 2 rfl rfl (.one (.one (.one (.one .nil))))) rfl ?_ | refine G.v (rv_loadP 3 rfl rfl (.one (.one (.one (.one .nil))))) rfl ?_ | refine G.v (rv_loadP 4 rfl rfl (.one (.one (.one (.one .nil))))) rfl ?_ | refine G.v (rv_loadP 5 rfl rfl (.one (.one (.one (.one .nil))))) rfl ?_ | refine G.v (rv_loadP 6 rfl rfl (.one (.one (.one (.one .nil))))) rfl ?_)) | refine G.gN rfl rfl rfl ?_ | refine G.gU rfl rfl rfl ?_))
                    all_goals ((first | (refine G.gY rfl rfl ?_; refine G.op (og_callV rfl rfl (fun w _ => overlap_ints _ _ _ _ _ _ _ _ _ _ _ _ _ _ _ _ w)) rfl (fun _ _ => ?_)) | refine G.gN rfl rfl rfl ?_ | refine G.gU rfl rfl rfl ?_))
                    all_goals ((first | refine G.v (rv_pickT rfl rfl) rfl ?_ | refine G.v (rv_pickF rfl rfl) rfl ?_))
                    all_goals (refine G.v (rv_assign rfl) rfl ?_)
                    all_goals
                     refine G.done ?_
                     refine G.thenN ?_
                     refine G.ret ?_
                     first | exact G.retFV rfl rfl rfl | (exfalso; rw [overlap_comm] at hc; simp at hc; done) | (exfalso; rw [overlap_comm] at hg; simp at hg; done) | (exfalso; simp at hc; done) | (exfalso; rw [overlap_comm] at hc; simp_all; done) | (have hop := overlap_point (bnot_false (by assumption)) (by first | exact not_lt1 (by assumption) | omega) (by first | exact not_lt1 (by assumption) | omega) (by first | exact not_lt1 (by assumption) | omega) (by first | exact not_lt1 (by assumption) | omega) (by first | exact not_lt1 (by assumption) | omega) (by first | exact not_lt1 (by assumption) | omega); first | exact G.retFV rfl rfl (congrArg Value.bool hop.2) | (exfalso; simp_all; done))
end Go.Proofs.Ytdbpdgpaacojgaa
