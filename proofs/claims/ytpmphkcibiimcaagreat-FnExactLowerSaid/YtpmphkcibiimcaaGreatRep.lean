/-
  A slice that is repeated; the units of an order.
-/
import Derived.Test.YtpmphkcibiimcaaGreatCls
import Derived.Test.YtpmphkcibiimcaaGreatCopy
namespace Go.Proofs.YtpmphkcibiimcaaGreat
open Go.RowKit
attribute [local irreducible] Go.wpList Go.Code.wp Go.Exit.then Go.Exit.inBlock Go.bodyPost Go.Calls pE pB G RunsV FnV Fn FnM
set_option maxRecDepth 100000
set_option maxHeartbeats 4000000
theorem small13 {c : Nat} (h : c ≤ 12) : c = 0 ∨ c = 1 ∨ c = 2 ∨ c = 3 ∨ c = 4 ∨ c = 5 ∨ c = 6 ∨ c = 7 ∨ c = 8 ∨ c = 9 ∨ c = 10 ∨ c = 11 ∨ c = 12 := by omega
theorem mul64_any {c : Nat} (w : World) (h : c ≤ 12) : FnV Tryz.prog 141 [.int .u64 1, .int .u64 (c : Int)] w (.tuple #[.int .u64 0, .int .u64 (c : Int)]) := by
  refine FnV.of (n := 51) Tryz.func141 rfl rfl ?_
  refine G.seq ?_
  refine G.region ?_
  refine G.v (rv_assign rfl) rfl ?_
  refine G.v (rv_assign rfl) rfl ?_
  refine G.done ?_
  refine G.thenN ?_
  refine G.seq ?_
  refine G.region ?_
  refine G.v (rv_move rfl) rfl ?_
  refine G.v (rv_and rfl rfl) rfl ?_
  refine G.v (rv_assign rfl) rfl ?_
  refine G.done ?_
  refine G.thenN ?_
  refine G.seq ?_
  refine G.region ?_
  refine G.v (rv_move rfl) rfl ?_
  refine G.v (rv_shr rfl rfl (by omega)) rfl ?_
  refine G.v (rv_assign rfl) rfl ?_
  refine G.done ?_
  refine G.thenN ?_
  refine G.seq ?_
  refine G.region ?_
  refine G.v (rv_move rfl) rfl ?_
  refine G.v (rv_and rfl rfl) rfl ?_
  refine G.v (rv_assign rfl) rfl ?_
  refine G.done ?_
  refine G.thenN ?_
  refine G.seq ?_
  refine G.region ?_
  refine G.v (rv_move rfl) rfl ?_
  refine G.v (rv_shr rfl rfl (by omega)) rfl ?_
  refine G.v (rv_assign rfl) rfl ?_
  refine G.done ?_
  refine G.thenN ?_
  refine G.seq ?_
  refine G.region ?_
  refine G.v (rv_move rfl) rfl ?_
  refine G.v (rv_move rfl) rfl ?_
  refine G.v (rv_mul rfl rfl) rfl ?_
  refine G.v (rv_assign rfl) rfl ?_
  refine G.done ?_
  refine G.thenN ?_
  refine G.seq ?_
  refine G.region ?_
  refine G.v (rv_move rfl) rfl ?_
  refine G.v (rv_move rfl) rfl ?_
  refine G.v (rv_mul rfl rfl) rfl ?_
  refine G.v (rv_move rfl) rfl ?_
  refine G.v (rv_shr rfl rfl (by omega)) rfl ?_
  refine G.v (rv_add rfl rfl) rfl ?_
  refine G.v (rv_assign rfl) rfl ?_
  refine G.done ?_
  refine G.thenN ?_
  refine G.seq ?_
  refine G.region ?_
  refine G.v (rv_move rfl) rfl ?_
  refine G.v (rv_and rfl rfl) rfl ?_
  refine G.v (rv_assign rfl) rfl ?_
  refine G.done ?_
  refine G.thenN ?_
  refine G.seq ?_
  refine G.region ?_
  refine G.v (rv_move rfl) rfl ?_
  refine G.v (rv_shr rfl rfl (by omega)) rfl ?_
  refine G.v (rv_assign rfl) rfl ?_
  refine G.done ?_
  refine G.thenN ?_
  refine G.seq ?_
  refine G.region ?_
  refine G.v (rv_move rfl) rfl ?_
  refine G.v (rv_move rfl) rfl ?_
  refine G.v (rv_move rfl) rfl ?_
  refine G.v (rv_mul rfl rfl) rfl ?_
  refine G.v (rv_add rfl rfl) rfl ?_
  refine G.v (rv_assign rfl) rfl ?_
  refine G.done ?_
  refine G.thenN ?_
  refine G.seq ?_
  refine G.region ?_
  refine G.v (rv_move rfl) rfl ?_
  refine G.v (rv_move rfl) rfl ?_
  refine G.v (rv_mul rfl rfl) rfl ?_
  refine G.v (rv_move rfl) rfl ?_
  refine G.v (rv_add rfl rfl) rfl ?_
  refine G.v (rv_move rfl) rfl ?_
  refine G.v (rv_shr rfl rfl (by omega)) rfl ?_
  refine G.v (rv_add rfl rfl) rfl ?_
  refine G.v (rv_assign rfl) rfl ?_
  refine G.done ?_
  refine G.thenN ?_
  refine G.seq ?_
  refine G.region ?_
  refine G.v (rv_move rfl) rfl ?_
  refine G.v (rv_move rfl) rfl ?_
  refine G.v (rv_mul rfl rfl) rfl ?_
  refine G.v (rv_assign rfl) rfl ?_
  refine G.done ?_
  refine G.thenN ?_
  refine G.ret ?_
  refine G.retVL rfl (.cons (.tmp rfl) (.cons (.tmp rfl) .nil)) ?_; rcases small13 h with rfl | rfl | rfl | rfl | rfl | rfl | rfl | rfl | rfl | rfl | rfl | rfl | rfl <;> rfl
theorem bitsMul_any {c : Nat} (w : World) (h : c ≤ 12) : FnV Tryz.prog 124 [.int .u64 1, .int .u64 (c : Int)] w (.tuple #[.int .u64 0, .int .u64 (c : Int)]) := by
  refine FnV.of (n := 30) Tryz.func124 rfl rfl ?_
  refine G.seq ?_
  refine G.region ?_
  refine G.v (rv_assign rfl) rfl ?_
  refine G.v (rv_assign rfl) rfl ?_
  refine G.done ?_
  refine G.thenN ?_
  refine G.seq ?_
  refine G.cond rfl (fun hc => ?_) (fun hc => ?_)
  · exact Bool.noConfusion hc
  · try exact Bool.noConfusion hc
    all_goals
     try replace hc := of_decide_eq_false hc
     try (exfalso; first | contradiction | omega)
     all_goals
      refine G.skip ?_
      refine G.thenN ?_
      refine G.seq ?_
      refine G.region ?_
      refine G.v (rv_move rfl) rfl ?_
      refine G.v (rv_move rfl) rfl ?_
      refine G.op (og_callV rfl rfl (fun w hh => mul64_any w h)) rfl (fun _ _ => ?_)
      refine G.v (rv_move rfl) rfl ?_
      refine G.v (rv_extract rfl rfl) rfl ?_
      refine G.v (rv_extract rfl rfl) rfl ?_
      refine G.v (rv_assign rfl) rfl ?_
      refine G.v (rv_assign rfl) rfl ?_
      refine G.done ?_
      refine G.thenN ?_
      refine G.seq ?_
      refine G.region ?_
      refine G.v (rv_move rfl) rfl ?_
      refine G.v (rv_move rfl) rfl ?_
      refine G.v (rv_assign rfl) rfl ?_
      refine G.v (rv_assign rfl) rfl ?_
      refine G.done ?_
      refine G.thenN ?_
      refine G.ret ?_
      exact G.retVL rfl (.cons (.tmp rfl) (.cons (.tmp rfl) .nil)) rfl
def repRow (z : Int) (c k : Nat) : List (List Value) := List.replicate k [.int .i64 z] ++ List.replicate (c - k) [.int .i64 0]
theorem repRow_len {z : Int} {c k : Nat} (h : k ≤ c) : (repRow z c k).length = c := by simp [repRow]; omega
theorem rep_first {z : Int} {c : Nat} (h : 1 ≤ c) : copyM (List.replicate c [Value.int .i64 0]) [[.int .i64 z]] 0 = repRow z c 1 := by
  have h1 : min 1 c = 1 := by omega
  simp only [copyM, repRow, List.take_zero, List.length_replicate, Nat.sub_zero, List.length_cons, List.length_nil, List.nil_append, Nat.zero_add, List.drop_replicate, h1, List.replicate_one]
  rw [List.take_of_length_le (by simp; omega)]
theorem rep_next {z : Int} {c k : Nat} (h : k < c) : copyM (repRow z c k) ((repRow z c k).take k) k = repRow z c (k + min k (c - k)) := by
  have hl := repRow_len (z := z) (Nat.le_of_lt h)
  have ht : (repRow z c k).take k = List.replicate k [.int .i64 z] := by simp [repRow, List.take_append]
  have hd : (repRow z c k).drop (k + min k (c - k)) = List.replicate (c - (k + min k (c - k))) [.int .i64 0] := by
    simp only [repRow, List.drop_append, List.drop_replicate, List.length_replicate]
    rw [show k - (k + min k (c - k)) = 0 by omega, show c - k - (k + min k (c - k) - k) = c - (k + min k (c - k)) by omega]; simp
  rw [copyM, hl, ht, List.length_replicate, hd, List.take_replicate, repRow]
  congr 1
  rw [List.replicate_append_replicate]; congr 1; omega
theorem rep_one {z : Int} {c : Nat} (h : 1 ≤ c) : min ([[Value.int .i64 z]] : List (List Value)).length ((List.replicate c [Value.int .i64 0]).length - 0) = 1 := by simp; omega
theorem rep_all {z : Int} {c : Nat} : repRow z c c = List.replicate c [.int .i64 z] := by simp [repRow]
theorem repeat_any {x : Value} {z : Int} {c : Nat} (w : World) (h : Rd w x 1 [[.int .i64 z]]) (h1 : 1 ≤ c) (h2 : c ≤ 12) : Fn Tryz.prog 100 [x, .int .i64 (c : Int)] w (fun v : Value => v.oneCell' = true) (fun v => v) (fun v => [.row v 3 1 (List.replicate c [.int .i64 z])]) := by
  refine Fn.of (n := 48) Tryz.func100 rfl rfl ?_
  refine G.seq ?_
  refine G.region ?_
  refine G.v (rv_assign rfl) rfl ?_
  refine G.done ?_
  refine G.thenN ?_
  refine G.seq ?_
  refine G.seq ?_
  refine G.region ?_
  refine G.v (rv_move rfl) rfl ?_
  refine G.v (rv_lss rfl rfl) rfl ?_
  refine G.done ?_
  refine G.thenN ?_
  refine G.cond rfl (fun hc => ?_) (fun hc => ?_)
  · try exact Bool.noConfusion hc
    all_goals
     try replace hc := of_decide_eq_true hc
     try (exfalso; first | contradiction | omega)
     all_goals
      exfalso; omega
  · try exact Bool.noConfusion hc
    all_goals
     try replace hc := of_decide_eq_false hc
     try (exfalso; first | contradiction | omega)
     all_goals
      refine G.skip ?_
      refine G.thenN ?_
      refine G.seq ?_
      refine G.region ?_
      refine G.v (rv_move rfl) rfl ?_
      refine G.v (rv_len rfl (by first | exact Rd.stays (by assumption) | exact Rd.owned 0 rfl | exact Rd.owned 1 rfl)) rfl ?_
      refine G.v (rv_convS rfl (by simp) (by simp)) rfl ?_
      refine G.v (rv_move rfl) rfl ?_
      refine G.v (rv_convS rfl (by omega) (by omega)) rfl ?_
      refine G.op (og_callV rfl rfl (fun w hh => bitsMul_any w h2)) rfl (fun _ _ => ?_)
      refine G.v (rv_move rfl) rfl ?_
      refine G.v (rv_extract rfl rfl) rfl ?_
      refine G.v (rv_extract rfl rfl) rfl ?_
      refine G.v (rv_assign rfl) rfl ?_
      refine G.v (rv_assign rfl) rfl ?_
      refine G.done ?_
      refine G.thenN ?_
      refine G.seq ?_
      refine G.seq ?_
      refine G.region ?_
      refine G.v (rv_move rfl) rfl ?_
      refine G.v (rv_gtr rfl rfl) rfl ?_
      refine G.v (rv_move rfl) rfl ?_
      all_goals (((with_reducible refine G.gP rfl rfl (fun hg => ?_) (fun hg => ?_)) <;> (try exact Bool.noConfusion hg) <;> (try (exfalso; first | (have hq := of_decide_eq_true hg; omega); done)) <;> (first | (refine G.gY rfl rfl ?_; refine G.v (rv_move rfl) rfl ?_) | refine G.gN rfl rfl rfl ?_ | refine G.gU rfl rfl rfl ?_)))
      all_goals ((first | (refine G.gY rfl rfl ?_; refine G.v (rv_gtr rfl rfl) rfl ?_) | refine G.gN rfl rfl rfl ?_ | refine G.gU rfl rfl rfl ?_))
      all_goals ((first | refine G.v (rv_pickT rfl rfl) rfl ?_ | refine G.v (rv_pickF rfl rfl) rfl ?_))
      all_goals
       refine G.done ?_
       refine G.thenN ?_
       refine G.cond rfl (fun hc => ?_) (fun hc => ?_)
       · try exact Bool.noConfusion hc
         all_goals
          try replace hc := of_decide_eq_true hc
          try (exfalso; first | contradiction | omega)
          all_goals
           exfalso; simp_all; try omega
       · try exact Bool.noConfusion hc
         all_goals
          try replace hc := of_decide_eq_false hc
          try (exfalso; first | contradiction | omega)
          all_goals
           refine G.skip ?_
           refine G.thenN ?_
           refine G.seq ?_
           refine G.region ?_
           refine G.v (rv_move rfl) rfl ?_
           refine G.v (rv_convS rfl (by omega) (by omega)) rfl ?_
           refine G.op (og_make rfl rfl rfl rfl rfl (by first | omega | (simp; omega)) (by first | omega | (simp; omega))) rfl (fun v _ => ?_)
           refine G.v (rv_assign rfl) rfl ?_
           refine G.done ?_
           refine G.thenN ?_
           refine G.seq ?_
           refine G.region ?_
           refine G.v (rv_move rfl) rfl ?_
           refine G.v (rv_move rfl) rfl ?_
           (first | refine G.op (og_copy0 (0) rfl rfl rfl (by first | exact .inl ⟨rfl, rfl⟩ | exact .inr rfl) (by first | omega | (simp; omega)) (by first | exact Rd.stays (by assumption) | exact Rd.owned 0 rfl | exact Rd.owned 1 rfl)) rfl (fun _ _ => ?_) | refine G.op (og_copy1 (0) rfl rfl rfl (by first | exact .inl ⟨rfl, rfl⟩ | exact .inr rfl) (by first | omega | (simp; omega)) (by first | exact Rd.stays (by assumption) | exact Rd.owned 0 rfl | exact Rd.owned 1 rfl)) rfl (fun _ _ => ?_))
           refine G.v (rv_assign rfl) rfl ?_
           refine G.done ?_
           refine G.thenN ?_
           refine G.seq ?_
           refine G.block ?_
           -- loop 0: turned [8], kept [7]
           refine G.rowEq (repRow z c 1) (rep_first h1) rfl ?_
           refine G.loopK (ι := Nat) (ks := [7]) (fun k => [(8, .int .i64 (k : Int))]) (fun k => [.row v 3 1 (repRow z c k)]) (fun k => 1 ≤ k ∧ k ≤ c) (fun k => c - k) 1 (.cons rfl (.nil)) rfl ?_ ?_ ?_
           · exact ⟨Nat.le_refl _, h1⟩
           · exact ⟨congrArg (fun q : Nat => some (Value.int .i64 (q : Int))) (rep_one h1), trivial⟩
           rintro k ⟨hk1, hkc⟩
           have hrl := repRow_len (z := z) hkc
           have hrt : ((repRow z c k).take k).length = k := by rw [List.length_take]; omega
           all_goals
            refine G.seq ?_
            refine G.seq ?_
            refine G.region ?_
            refine G.v (rv_move rfl) rfl ?_
            refine G.v (rv_move rfl) rfl ?_
            refine G.v (rv_len rfl (by first | exact Rd.stays (by assumption) | exact Rd.owned 0 rfl | exact Rd.owned 1 rfl)) rfl ?_
            refine G.v (rv_lss rfl rfl) rfl ?_
            refine G.done ?_
            refine G.thenN ?_
            refine G.cond rfl (fun hc => ?_) (fun hc => ?_)
            · try exact Bool.noConfusion hc
              all_goals
               try replace hc := of_decide_eq_true hc
               try (exfalso; first | contradiction | omega)
               all_goals
                refine G.skip ?_
                refine G.thenN ?_
                refine G.block ?_
                refine G.drawS [7] rfl ?_
                refine GS.p 0 rfl (by as_aux_lemma => kernel_rfl) (qg_runs (rv_move rfl)) (fun _ h => h.drop 1) rfl ?_
                refine GS.p 1 rfl (by as_aux_lemma => kernel_rfl) (qg_runs (rv_move rfl)) (fun _ h => h.drop 1) rfl ?_
                refine GS.p 2 rfl (by as_aux_lemma => kernel_rfl) (qg_runs (rv_move rfl)) (fun _ h => h.drop 1) rfl ?_
                refine GS.q 3 [7, 8, 9] rfl (by as_aux_lemma => kernel_rfl) (by as_aux_lemma => kernel_rfl) (qg_runs (rv_sliceL rfl rfl (by first | exact Rd.stays (by assumption) | exact Rd.owned 0 rfl | exact Rd.owned 1 rfl) (by omega))) rfl ?_
                refine GS.p 4 rfl (by as_aux_lemma => kernel_rfl) (qg_runs (rv_move rfl)) (fun _ h => h.drop 1) rfl ?_
                refine GS.p 5 rfl (by as_aux_lemma => kernel_rfl) (qg_runs (rv_move rfl)) (fun _ h => h.drop 1) rfl ?_
                refine GS.q 6 [7, 8, 9] rfl (by as_aux_lemma => kernel_rfl) (by as_aux_lemma => kernel_rfl) (qg_runs (rv_sliceH rfl rfl (by first | exact Rd.stays (by assumption) | exact Rd.owned 0 rfl | exact Rd.owned 1 rfl) (by omega))) rfl ?_
                refine GS.o1 7 (by as_aux_lemma => kernel_rfl) rfl rfl (og_copy0 (k) rfl rfl rfl (by first | exact .inl ⟨rfl, rfl⟩ | exact .inr rfl) (by first | omega | (simp; omega)) (fun w hw => by have q := (Rd.owned 0 rfl w hw).sub (l := 0) (k := k) (Nat.zero_le _) (by omega); rw [List.drop_zero, Nat.sub_zero] at q; exact q)) rfl (fun _ _ h => h.drop 1) (fun _ _ => ?_)
                (first | refine GS.p 8 rfl (by as_aux_lemma => kernel_rfl) (qg_runs (rv_incr rfl rfl (by omega))) (fun _ h => h.drop 1) rfl ?_ | refine GS.p 8 rfl (by as_aux_lemma => kernel_rfl) (qg_runs (rv_addN rfl rfl (by omega))) (fun _ h => h.drop 1) rfl ?_)
                refine GS.p 9 rfl (by as_aux_lemma => kernel_rfl) (qg_runs (rv_assign rfl)) (fun _ h => h.drop 1) rfl ?_
                refine GS.done (by as_aux_lemma => kernel_rfl) ?_
                refine G.inN ?_
                first | refine G.backK (k + min k (c - k)) 0 (congrArg (fun y => [Ch.row v 3 1 y]) (rep_next (by omega))) (.cons rfl (.nil)) ?_ ?_ ?_ | refine G.backK (k + min k (c - k)) 1 (congrArg (fun y => [Ch.row v 3 1 y]) (rep_next (by omega))) (.cons rfl (.nil)) ?_ ?_ ?_
                · exact ⟨congrArg (fun q : Nat => some (Value.int .i64 ((k + q : Nat) : Int))) (by rw [hrt, hrl]), trivial⟩
                · exact ⟨by omega, by omega⟩
                · omega
            · try exact Bool.noConfusion hc
              all_goals
               try replace hc := of_decide_eq_false hc
               try (exfalso; first | contradiction | omega)
               all_goals
                refine G.exit ?_
                refine G.thenX ?_
                refine G.thenX ?_
                refine G.inX ?_
                refine G.thenN ?_
                refine G.seq ?_
                refine G.region ?_
                refine G.v (rv_move rfl) rfl ?_
                refine G.v (rv_assign rfl) rfl ?_
                refine G.done ?_
                refine G.thenN ?_
                refine G.ret ?_
                refine G.know (fun w hw => (Rd.owned 0 rfl w hw).one_) (fun hone => G.retF v hone rfl rfl rfl (fun w hw => by rw [show k = c by omega, rep_all] at hw; exact hw))
end Go.Proofs.YtpmphkcibiimcaaGreat
