/-
  Lists of boxes and of spots: copied, compared, their areas and pallets.
-/
import Derived.Test.YticgeijklhlonaaGeo1
namespace Go.Proofs.Yticgeijklhlonaa
open Go.RowKit
attribute [local irreducible] Go.wpList Go.Code.wp Go.Exit.then Go.Exit.inBlock Go.bodyPost Go.Calls pE pB G RunsV FnV Fn FnM
set_option maxRecDepth 100000

theorem szBoxS_any {v : Value} {l : List BoxM} (left : Int) (w : World) (h : Rd w v 4 (l.map BoxM.cells)) (h0 : 0 ≤ left) (h1 : left ≤ 1048576) : FnV Try.prog 61 [v, .int .i64 left] w (.int .i64 (szM l.length left)) := by
  have hle := h.le_map
  have hln : ((l.map BoxM.cells).length : Int) = l.length := by simp
  refine FnV.of (n := 12) Try.func61 rfl rfl ?_
  refine G.seq ?_
  refine G.region ?_
  refine G.v (rv_assign rfl) rfl ?_
  refine G.done ?_
  refine G.thenN ?_
  refine G.seq ?_
  refine G.region ?_
  refine G.v (rv_move rfl) rfl ?_
  refine G.v (rv_move rfl) rfl ?_
  refine G.v (rv_len rfl (by exact Rd.stays (by assumption))) rfl ?_
  (refine G.v (rv_subB rfl rfl (by omega) (by omega)) rfl ?_)
  refine G.v (rv_assign rfl) rfl ?_
  refine G.done ?_
  refine G.thenN ?_
  refine G.seq ?_
  refine G.seq ?_
  refine G.region ?_
  refine G.v (rv_move rfl) rfl ?_
  refine G.v (rv_lss rfl rfl) rfl ?_
  refine G.done ?_
  refine G.thenN ?_
  refine G.cond rfl (fun hc => ?_) (fun hc => ?_)
  · try exact Bool.noConfusion hc
    all_goals
     try replace hc := of_decide_eq_true hc
     try (exfalso; contradiction)
     all_goals
      refine G.seq ?_
      refine G.region ?_
      refine G.v (rv_assign rfl) rfl ?_
      refine G.done ?_
      refine G.thenN ?_
      refine G.ret ?_
      refine G.thenR ?_
      exact G.retFV rfl rfl (congrArg (Value.int .i64) (by simp only [szM]; omega))
  · try exact Bool.noConfusion hc
    all_goals
     try replace hc := of_decide_eq_false hc
     try (exfalso; contradiction)
     all_goals
      refine G.skip ?_
      refine G.thenN ?_
      refine G.seq ?_
      refine G.region ?_
      refine G.v (rv_move rfl) rfl ?_
      refine G.v (rv_assign rfl) rfl ?_
      refine G.done ?_
      refine G.thenN ?_
      refine G.ret ?_
      exact G.retFV rfl rfl (congrArg (Value.int .i64) (by simp only [szM]; omega))
theorem toBoxS_any {v : Value} {l : List BoxM} (w : World) (h : Rd w v 4 (l.map BoxM.cells)) (hl : l.length ≤ 1048576) : Fn Try.prog 62 [v] w (fun v : Value => v.oneCell' = true) (fun v => v) (fun v => [.row v 26 4 (l.map BoxM.cells)]) := by
  have hln : (l.map BoxM.cells).length = l.length := by simp
  refine Fn.of (n := 23) Try.func62 rfl rfl ?_
  refine G.seq ?_
  refine G.region ?_
  refine G.v (rv_assign rfl) rfl ?_
  refine G.done ?_
  refine G.thenN ?_
  refine G.seq ?_
  refine G.region ?_
  refine G.v (rv_move rfl) rfl ?_
  refine G.v (rv_len rfl (by exact Rd.stays (by assumption))) rfl ?_
  refine G.op (og_make rfl rfl rfl rfl rfl (by simp; omega) (by simp; omega)) rfl (fun v _ => ?_)
  refine G.v (rv_assign rfl) rfl ?_
  refine G.done ?_
  refine G.thenN ?_
  refine G.seq ?_
  refine G.seq ?_
  refine G.region ?_
  refine G.v (rv_assign rfl) rfl ?_
  refine G.done ?_
  refine G.thenN ?_
  refine G.block ?_
  -- loop 0: turned [4], kept [0, 3]
  refine G.loopK (ι := Nat) (ks := [0, 3]) (fun k => [(4, .int .i64 k)]) (fun k => [.row v 26 4 (fillTo (l.map BoxM.cells) [.int .i64 0, .int .i64 0, .int .i64 0, .int .i64 0] k)]) (fun k => k ≤ l.length) (fun k => l.length - k) 0 (.cons rfl (.cons rfl (.nil))) rfl ?_ ?_ ?_
  · exact Nat.zero_le _
  · exact ⟨rfl, trivial⟩
  rintro k hk
  by_cases hlt : k < l.length
  case' pos => (obtain ⟨b, hb⟩ := get_of_lt hlt; have he := get_map hb BoxM.cells; have hf := fillTo_get (z := [.int .i64 0, .int .i64 0, .int .i64 0, .int .i64 0]) (Nat.lt_of_lt_of_eq hlt hln.symm))
  all_goals
   refine G.seq ?_
   refine G.seq ?_
   refine G.region ?_
   refine G.v (rv_move rfl) rfl ?_
   refine G.v (rv_move rfl) rfl ?_
   refine G.v (rv_len rfl (by exact Rd.stays (by assumption))) rfl ?_
   refine G.v (rv_lss rfl rfl) rfl ?_
   refine G.done ?_
   refine G.thenN ?_
   refine G.cond rfl (fun hc => ?_) (fun hc => ?_)
   · try exact Bool.noConfusion hc
     all_goals
      try replace hc := of_decide_eq_true hc
      try simp only [List.length_map] at hc
      try (exfalso; omega)
      all_goals
       refine G.skip ?_
       refine G.thenN ?_
       refine G.seq ?_
       refine G.block ?_
       refine G.region ?_
       refine G.v (rv_move rfl) rfl ?_
       refine G.v (rv_move rfl) rfl ?_
       refine G.v (rv_move rfl) rfl ?_
       refine G.v (rv_move rfl) rfl ?_
       (refine G.v (rv_indexH rfl rfl (by exact Rd.stays (by assumption)) rfl (by assumption)) rfl ?_)
       (refine G.v (rv_loadEW rfl (by exact Rd.stays (by assumption)) (by assumption) rfl) rfl ?_)
       refine G.op (og_callV rfl rfl (fun w _ => toBox_any _ w)) rfl (fun _ _ => ?_)
       (refine G.v (rv_indexH rfl rfl (by exact Rd.owned 0 rfl) rfl (by assumption)) rfl ?_)
       refine G.op0 (og_stE0 rfl rfl rfl (by assumption) rfl rfl rfl rfl (.zero (.cons (.cons (.cons (.cons .nil)))))) (fun _ _ => ?_)
       refine G.done ?_
       refine G.inN ?_
       refine G.thenN ?_
       refine G.region ?_
       refine G.v (rv_move rfl) rfl ?_
       (refine G.v (rv_incr rfl rfl (by omega)) rfl ?_)
       refine G.v (rv_assign rfl) rfl ?_
       refine G.done ?_
       refine G.backK (k + 1) 0 (congrArg (fun x => [Ch.row v 26 4 x]) (fillTo_set he)) (.cons rfl (.cons rfl (.nil))) ?_ ?_ ?_
       · exact ⟨rfl, trivial⟩
       · exact hlt
       · omega
   · try exact Bool.noConfusion hc
     all_goals
      try replace hc := of_decide_eq_false hc
      try simp only [List.length_map] at hc
      try (exfalso; omega)
      all_goals
       refine G.exit ?_
       refine G.thenX ?_
       refine G.thenX ?_
       refine G.inX ?_
       refine G.thenN ?_
       refine G.seq ?_
       refine G.region ?_
       refine G.v (rv_move rfl) rfl ?_
       refine G.v (rv_assign rfl) rfl ?_
       refine G.done ?_
       refine G.thenN ?_
       refine G.ret ?_
       refine G.know (fun w hw => (Rd.owned 0 rfl w hw).one_) (fun hone => G.retF v hone rfl rfl rfl (fun w hw => by rw [fillTo_all (by omega)] at hw; exact hw))
theorem eqBox_any (a b : BoxM) (w : World) : FnV Try.prog 116 [a.val, b.val] w (.bool (decide (a = b))) := by
  obtain ⟨a1, a2, a3, a4⟩ := a
  obtain ⟨b1, b2, b3, b4⟩ := b
  refine FnV.of (n := 25) Try.func116 rfl rfl ?_
  refine G.seq ?_
  refine G.region ?_
  refine G.op (og_box rfl rfl) rfl (fun bk2 _ => ?_)
  refine G.op (og_box rfl rfl) rfl (fun bk3 _ => ?_)
  refine G.v (rv_assign rfl) rfl ?_
  refine G.done ?_
  refine G.thenN ?_
  refine G.seq ?_
  refine G.seq ?_
  refine G.region ?_
  (refine G.v (rv_field rfl) rfl ?_)
  (refine G.v (rv_load1 1 rfl rfl rfl) rfl ?_)
  (refine G.v (rv_field rfl) rfl ?_)
  (refine G.v (rv_load1 0 rfl rfl rfl) rfl ?_)
  refine G.v (rv_neq rfl rfl) rfl ?_
  refine G.done ?_
  refine G.thenN ?_
  refine G.cond rfl (fun hc => ?_) (fun hc => ?_)
  · try exact Bool.noConfusion hc
    all_goals
     try replace hc := of_decide_eq_true hc
     try (exfalso; contradiction)
     all_goals
      refine G.seq ?_
      refine G.region ?_
      refine G.v (rv_assign rfl) rfl ?_
      refine G.done ?_
      refine G.thenN ?_
      refine G.ret ?_
      refine G.thenR ?_
      refine G.retFV rfl rfl (congrArg Value.bool ?_); simp_all
  · try exact Bool.noConfusion hc
    all_goals
     try replace hc := of_decide_eq_false hc
     try (exfalso; contradiction)
     all_goals
      refine G.skip ?_
      refine G.thenN ?_
      refine G.seq ?_
      refine G.seq ?_
      refine G.region ?_
      (refine G.v (rv_field rfl) rfl ?_)
      (refine G.v (rv_load1 1 rfl rfl rfl) rfl ?_)
      (refine G.v (rv_field rfl) rfl ?_)
      (refine G.v (rv_load1 0 rfl rfl rfl) rfl ?_)
      refine G.v (rv_neq rfl rfl) rfl ?_
      refine G.done ?_
      refine G.thenN ?_
      refine G.cond rfl (fun hc => ?_) (fun hc => ?_)
      · try exact Bool.noConfusion hc
        all_goals
         try replace hc := of_decide_eq_true hc
         try (exfalso; contradiction)
         all_goals
          refine G.seq ?_
          refine G.region ?_
          refine G.v (rv_assign rfl) rfl ?_
          refine G.done ?_
          refine G.thenN ?_
          refine G.ret ?_
          refine G.thenR ?_
          refine G.retFV rfl rfl (congrArg Value.bool ?_); simp_all
      · try exact Bool.noConfusion hc
        all_goals
         try replace hc := of_decide_eq_false hc
         try (exfalso; contradiction)
         all_goals
          refine G.skip ?_
          refine G.thenN ?_
          refine G.seq ?_
          refine G.seq ?_
          refine G.region ?_
          (refine G.v (rv_field rfl) rfl ?_)
          (refine G.v (rv_load1 1 rfl rfl rfl) rfl ?_)
          (refine G.v (rv_field rfl) rfl ?_)
          (refine G.v (rv_load1 0 rfl rfl rfl) rfl ?_)
          refine G.v (rv_neq rfl rfl) rfl ?_
          refine G.done ?_
          refine G.thenN ?_
          refine G.cond rfl (fun hc => ?_) (fun hc => ?_)
          · try exact Bool.noConfusion hc
            all_goals
             try replace hc := of_decide_eq_true hc
             try (exfalso; contradiction)
             all_goals
              refine G.seq ?_
              refine G.region ?_
              refine G.v (rv_assign rfl) rfl ?_
              refine G.done ?_
              refine G.thenN ?_
              refine G.ret ?_
              refine G.thenR ?_
              refine G.retFV rfl rfl (congrArg Value.bool ?_); simp_all
          · try exact Bool.noConfusion hc
            all_goals
             try replace hc := of_decide_eq_false hc
             try (exfalso; contradiction)
             all_goals
              refine G.skip ?_
              refine G.thenN ?_
              refine G.seq ?_
              refine G.seq ?_
              refine G.region ?_
              (refine G.v (rv_field rfl) rfl ?_)
              (refine G.v (rv_load1 1 rfl rfl rfl) rfl ?_)
              (refine G.v (rv_field rfl) rfl ?_)
              (refine G.v (rv_load1 0 rfl rfl rfl) rfl ?_)
              refine G.v (rv_neq rfl rfl) rfl ?_
              refine G.done ?_
              refine G.thenN ?_
              refine G.cond rfl (fun hc => ?_) (fun hc => ?_)
              · try exact Bool.noConfusion hc
                all_goals
                 try replace hc := of_decide_eq_true hc
                 try (exfalso; contradiction)
                 all_goals
                  refine G.seq ?_
                  refine G.region ?_
                  refine G.v (rv_assign rfl) rfl ?_
                  refine G.done ?_
                  refine G.thenN ?_
                  refine G.ret ?_
                  refine G.thenR ?_
                  refine G.retFV rfl rfl (congrArg Value.bool ?_); simp_all
              · try exact Bool.noConfusion hc
                all_goals
                 try replace hc := of_decide_eq_false hc
                 try (exfalso; contradiction)
                 all_goals
                  refine G.skip ?_
                  refine G.thenN ?_
                  refine G.seq ?_
                  refine G.region ?_
                  refine G.v (rv_assign rfl) rfl ?_
                  refine G.done ?_
                  refine G.thenN ?_
                  refine G.ret ?_
                  refine G.retFV rfl rfl (congrArg Value.bool ?_); simp_all
theorem eqBoxS_any {u v : Value} {xs ys : List BoxM} (w : World) (h : Rd w u 4 (xs.map BoxM.cells)) (h2 : Rd w v 4 (ys.map BoxM.cells)) : FnV Try.prog 63 [u, v] w (.bool (decide (xs = ys))) := by
  have hle := h.le_map
  have hln : (xs.map BoxM.cells).length = xs.length := by simp
  have hln2 : (ys.map BoxM.cells).length = ys.length := by simp
  refine FnV.of (n := 27) Try.func63 rfl rfl ?_
  refine G.seq ?_
  refine G.region ?_
  refine G.v (rv_assign rfl) rfl ?_
  refine G.done ?_
  refine G.thenN ?_
  refine G.seq ?_
  refine G.seq ?_
  refine G.region ?_
  refine G.v (rv_move rfl) rfl ?_
  refine G.v (rv_len rfl (by exact Rd.stays (by assumption))) rfl ?_
  refine G.v (rv_move rfl) rfl ?_
  refine G.v (rv_len rfl (by exact Rd.stays (by assumption))) rfl ?_
  refine G.v (rv_neq rfl rfl) rfl ?_
  refine G.done ?_
  refine G.thenN ?_
  refine G.cond rfl (fun hc => ?_) (fun hc => ?_)
  · try exact Bool.noConfusion hc
    all_goals
     try replace hc := of_decide_eq_true hc
     try (exfalso; contradiction)
     all_goals
      refine G.seq ?_
      refine G.region ?_
      refine G.v (rv_assign rfl) rfl ?_
      refine G.done ?_
      refine G.thenN ?_
      refine G.ret ?_
      refine G.thenR ?_
      exact G.retFV rfl rfl (eqS_len hc)
  · try exact Bool.noConfusion hc
    all_goals
     try replace hc := of_decide_eq_false hc
     try (exfalso; contradiction)
     all_goals
      refine G.skip ?_
      refine G.thenN ?_
      refine G.seq ?_
      refine G.seq ?_
      refine G.region ?_
      refine G.v (rv_assign rfl) rfl ?_
      refine G.done ?_
      refine G.thenN ?_
      refine G.block ?_
      -- loop 0: turned [5], kept [0, 1]
      refine G.loopK (ι := Nat) (ks := [0, 1]) (fun k => [(5, .int .i64 k)]) (fun _ => []) (fun k => k ≤ xs.length ∧ xs.take k = ys.take k) (fun k => xs.length - k) 0 (.cons rfl (.cons rfl (.nil))) rfl ?_ ?_ ?_
      · exact ⟨Nat.zero_le _, rfl⟩
      · exact ⟨rfl, trivial⟩
      rintro k ⟨hk, ht⟩
      by_cases hlt : k < xs.length
      case' pos => (obtain ⟨a, ha⟩ := get_of_lt hlt; obtain ⟨b, hb⟩ := get_of_lt (l := ys) (k := k) (by omega); have he := get_map ha BoxM.cells; have he2 := get_map hb BoxM.cells)
      all_goals
       refine G.seq ?_
       refine G.seq ?_
       refine G.region ?_
       refine G.v (rv_move rfl) rfl ?_
       refine G.v (rv_move rfl) rfl ?_
       refine G.v (rv_len rfl (by exact Rd.stays (by assumption))) rfl ?_
       refine G.v (rv_lss rfl rfl) rfl ?_
       refine G.done ?_
       refine G.thenN ?_
       refine G.cond rfl (fun hc => ?_) (fun hc => ?_)
       · try exact Bool.noConfusion hc
         all_goals
          try replace hc := of_decide_eq_true hc
          try (exfalso; omega)
          all_goals
           refine G.skip ?_
           refine G.thenN ?_
           refine G.seq ?_
           refine G.block ?_
           refine G.seq ?_
           refine G.drawL [] ?_
           refine GE.q 0 rfl (by kernel_rfl) rfl (qg_runs (rv_move rfl)) rfl ?_
           refine GE.q 1 rfl (by kernel_rfl) rfl (qg_runs (rv_move rfl)) rfl ?_
           (refine GE.q 2 rfl (by kernel_rfl) rfl (qg_runs (rv_indexH rfl rfl (by exact Rd.stays (by assumption)) rfl (by assumption))) rfl ?_)
           (refine GE.q 3 rfl (by kernel_rfl) rfl (qg_runs (rv_loadEW rfl (by exact Rd.stays (by assumption)) (by assumption) rfl)) rfl ?_)
           refine GE.q 4 rfl (by kernel_rfl) rfl (qg_runs (rv_move rfl)) rfl ?_
           refine GE.ol 5 (by kernel_rfl) rfl rfl (og_runs (rv_move rfl)) rfl (fun _ _ h => by exact h) (fun _ _ => ?_)
           (refine GE.ol 6 (by kernel_rfl) rfl rfl (og_runs (rv_indexH rfl rfl (by exact Rd.stays (by assumption)) rfl (by assumption))) rfl (fun _ _ h => by exact h) (fun _ _ => ?_))
           (refine GE.ol 7 (by kernel_rfl) rfl rfl (og_runs (rv_loadEW rfl (by exact Rd.stays (by assumption)) (by assumption) rfl)) rfl (fun _ _ h => by exact h) (fun _ _ => ?_))
           refine GE.ol 8 (by kernel_rfl) rfl rfl (og_callV rfl rfl (fun w _ => eqBox_any _ _ w)) rfl (fun _ _ h => by exact h) (fun _ _ => ?_)
           refine GE.ol 9 (by kernel_rfl) rfl rfl (og_runs (rv_not rfl)) rfl (fun _ _ h => by exact h) (fun _ _ => ?_)
           refine GE.done (by kernel_rfl) ?_
           refine G.thenN ?_
           refine G.cond rfl (fun hc => ?_) (fun hc => ?_)
           · try exact Bool.noConfusion hc
             all_goals
              try replace hc := of_decide_eq_true hc
              try (exfalso; contradiction)
              all_goals
               refine G.seq ?_
               refine G.region ?_
               refine G.v (rv_assign rfl) rfl ?_
               refine G.done ?_
               refine G.thenN ?_
               refine G.ret ?_
               refine G.inR ?_
               refine G.thenR ?_
               refine G.thenR ?_
               refine G.inR ?_
               refine G.thenR ?_
               exact G.retFV rfl rfl (eqS_elt ha hb hc)
           · try exact Bool.noConfusion hc
             all_goals
              try replace hc := of_decide_eq_false hc
              try (exfalso; contradiction)
              all_goals
               refine G.skip ?_
               refine G.inN ?_
               refine G.thenN ?_
               refine G.region ?_
               refine G.v (rv_move rfl) rfl ?_
               (refine G.v (rv_incr rfl rfl (by omega)) rfl ?_)
               refine G.v (rv_assign rfl) rfl ?_
               refine G.done ?_
               refine G.backK (k + 1) 0 rfl (.cons rfl (.cons rfl (.nil))) ?_ ?_ ?_
               · exact ⟨rfl, trivial⟩
               · exact ⟨hlt, eqS_next ht ha hb hc⟩
               · omega
       · try exact Bool.noConfusion hc
         all_goals
          try replace hc := of_decide_eq_false hc
          try (exfalso; omega)
          all_goals
           refine G.exit ?_
           refine G.thenX ?_
           refine G.thenX ?_
           refine G.inX ?_
           refine G.thenN ?_
           refine G.seq ?_
           refine G.region ?_
           refine G.v (rv_assign rfl) rfl ?_
           refine G.done ?_
           refine G.thenN ?_
           refine G.ret ?_
           exact G.retFV rfl rfl (eqS_all ht (by omega) hlt)

theorem szSpotS_any {v : Value} {l : List SpotM} (left : Int) (w : World) (h : Rd w v 4 (l.map SpotM.cells)) (h0 : 0 ≤ left) (h1 : left ≤ 1048576) : FnV Try.prog 84 [v, .int .i64 left] w (.int .i64 (szM l.length left)) := by
  have hle := h.le_map
  have hln : ((l.map SpotM.cells).length : Int) = l.length := by simp
  refine FnV.of (n := 12) Try.func84 rfl rfl ?_
  refine G.seq ?_
  refine G.region ?_
  refine G.v (rv_assign rfl) rfl ?_
  refine G.done ?_
  refine G.thenN ?_
  refine G.seq ?_
  refine G.region ?_
  refine G.v (rv_move rfl) rfl ?_
  refine G.v (rv_move rfl) rfl ?_
  refine G.v (rv_len rfl (by exact Rd.stays (by assumption))) rfl ?_
  (refine G.v (rv_subB rfl rfl (by omega) (by omega)) rfl ?_)
  refine G.v (rv_assign rfl) rfl ?_
  refine G.done ?_
  refine G.thenN ?_
  refine G.seq ?_
  refine G.seq ?_
  refine G.region ?_
  refine G.v (rv_move rfl) rfl ?_
  refine G.v (rv_lss rfl rfl) rfl ?_
  refine G.done ?_
  refine G.thenN ?_
  refine G.cond rfl (fun hc => ?_) (fun hc => ?_)
  · try exact Bool.noConfusion hc
    all_goals
     try replace hc := of_decide_eq_true hc
     try (exfalso; contradiction)
     all_goals
      refine G.seq ?_
      refine G.region ?_
      refine G.v (rv_assign rfl) rfl ?_
      refine G.done ?_
      refine G.thenN ?_
      refine G.ret ?_
      refine G.thenR ?_
      exact G.retFV rfl rfl (congrArg (Value.int .i64) (by simp only [szM]; omega))
  · try exact Bool.noConfusion hc
    all_goals
     try replace hc := of_decide_eq_false hc
     try (exfalso; contradiction)
     all_goals
      refine G.skip ?_
      refine G.thenN ?_
      refine G.seq ?_
      refine G.region ?_
      refine G.v (rv_move rfl) rfl ?_
      refine G.v (rv_assign rfl) rfl ?_
      refine G.done ?_
      refine G.thenN ?_
      refine G.ret ?_
      exact G.retFV rfl rfl (congrArg (Value.int .i64) (by simp only [szM]; omega))
theorem toSpotS_any {v : Value} {l : List SpotM} (w : World) (h : Rd w v 4 (l.map SpotM.cells)) (hl : l.length ≤ 1048576) : Fn Try.prog 87 [v] w (fun v : Value => v.oneCell' = true) (fun v => v) (fun v => [.row v 28 4 (l.map SpotM.cells)]) := by
  have hln : (l.map SpotM.cells).length = l.length := by simp
  refine Fn.of (n := 23) Try.func87 rfl rfl ?_
  refine G.seq ?_
  refine G.region ?_
  refine G.v (rv_assign rfl) rfl ?_
  refine G.done ?_
  refine G.thenN ?_
  refine G.seq ?_
  refine G.region ?_
  refine G.v (rv_move rfl) rfl ?_
  refine G.v (rv_len rfl (by exact Rd.stays (by assumption))) rfl ?_
  refine G.op (og_make rfl rfl rfl rfl rfl (by simp; omega) (by simp; omega)) rfl (fun v _ => ?_)
  refine G.v (rv_assign rfl) rfl ?_
  refine G.done ?_
  refine G.thenN ?_
  refine G.seq ?_
  refine G.seq ?_
  refine G.region ?_
  refine G.v (rv_assign rfl) rfl ?_
  refine G.done ?_
  refine G.thenN ?_
  refine G.block ?_
  -- loop 0: turned [4], kept [0, 3]
  refine G.loopK (ι := Nat) (ks := [0, 3]) (fun k => [(4, .int .i64 k)]) (fun k => [.row v 28 4 (fillTo (l.map SpotM.cells) [.int .i64 0, .int .i64 0, .int .i64 0, .int .i64 0] k)]) (fun k => k ≤ l.length) (fun k => l.length - k) 0 (.cons rfl (.cons rfl (.nil))) rfl ?_ ?_ ?_
  · exact Nat.zero_le _
  · exact ⟨rfl, trivial⟩
  rintro k hk
  by_cases hlt : k < l.length
  case' pos => (obtain ⟨b, hb⟩ := get_of_lt hlt; have he := get_map hb SpotM.cells; have hf := fillTo_get (z := [.int .i64 0, .int .i64 0, .int .i64 0, .int .i64 0]) (Nat.lt_of_lt_of_eq hlt hln.symm))
  all_goals
   refine G.seq ?_
   refine G.seq ?_
   refine G.region ?_
   refine G.v (rv_move rfl) rfl ?_
   refine G.v (rv_move rfl) rfl ?_
   refine G.v (rv_len rfl (by exact Rd.stays (by assumption))) rfl ?_
   refine G.v (rv_lss rfl rfl) rfl ?_
   refine G.done ?_
   refine G.thenN ?_
   refine G.cond rfl (fun hc => ?_) (fun hc => ?_)
   · try exact Bool.noConfusion hc
     all_goals
      try replace hc := of_decide_eq_true hc
      try simp only [List.length_map] at hc
      try (exfalso; omega)
      all_goals
       refine G.skip ?_
       refine G.thenN ?_
       refine G.seq ?_
       refine G.block ?_
       refine G.region ?_
       refine G.v (rv_move rfl) rfl ?_
       refine G.v (rv_move rfl) rfl ?_
       refine G.v (rv_move rfl) rfl ?_
       refine G.v (rv_move rfl) rfl ?_
       (refine G.v (rv_indexH rfl rfl (by exact Rd.stays (by assumption)) rfl (by assumption)) rfl ?_)
       (refine G.v (rv_loadEW rfl (by exact Rd.stays (by assumption)) (by assumption) rfl) rfl ?_)
       refine G.op (og_callV rfl rfl (fun w _ => toSpot_any _ w)) rfl (fun _ _ => ?_)
       (refine G.v (rv_indexH rfl rfl (by exact Rd.owned 0 rfl) rfl (by assumption)) rfl ?_)
       refine G.op0 (og_stE0 rfl rfl rfl (by assumption) rfl rfl rfl rfl (.zero (.cons (.cons (.cons (.cons .nil)))))) (fun _ _ => ?_)
       refine G.done ?_
       refine G.inN ?_
       refine G.thenN ?_
       refine G.region ?_
       refine G.v (rv_move rfl) rfl ?_
       (refine G.v (rv_incr rfl rfl (by omega)) rfl ?_)
       refine G.v (rv_assign rfl) rfl ?_
       refine G.done ?_
       refine G.backK (k + 1) 0 (congrArg (fun x => [Ch.row v 28 4 x]) (fillTo_set he)) (.cons rfl (.cons rfl (.nil))) ?_ ?_ ?_
       · exact ⟨rfl, trivial⟩
       · exact hlt
       · omega
   · try exact Bool.noConfusion hc
     all_goals
      try replace hc := of_decide_eq_false hc
      try simp only [List.length_map] at hc
      try (exfalso; omega)
      all_goals
       refine G.exit ?_
       refine G.thenX ?_
       refine G.thenX ?_
       refine G.inX ?_
       refine G.thenN ?_
       refine G.seq ?_
       refine G.region ?_
       refine G.v (rv_move rfl) rfl ?_
       refine G.v (rv_assign rfl) rfl ?_
       refine G.done ?_
       refine G.thenN ?_
       refine G.ret ?_
       refine G.know (fun w hw => (Rd.owned 0 rfl w hw).one_) (fun hone => G.retF v hone rfl rfl rfl (fun w hw => by rw [fillTo_all (by omega)] at hw; exact hw))
theorem eqSpot_any (a b : SpotM) (w : World) : FnV Try.prog 118 [a.val, b.val] w (.bool (decide (a = b))) := by
  obtain ⟨a1, a2, a3, a4⟩ := a
  obtain ⟨b1, b2, b3, b4⟩ := b
  refine FnV.of (n := 25) Try.func118 rfl rfl ?_
  refine G.seq ?_
  refine G.region ?_
  refine G.op (og_box rfl rfl) rfl (fun bk2 _ => ?_)
  refine G.op (og_box rfl rfl) rfl (fun bk3 _ => ?_)
  refine G.v (rv_assign rfl) rfl ?_
  refine G.done ?_
  refine G.thenN ?_
  refine G.seq ?_
  refine G.seq ?_
  refine G.region ?_
  (refine G.v (rv_field rfl) rfl ?_)
  (refine G.v (rv_load1 1 rfl rfl rfl) rfl ?_)
  (refine G.v (rv_field rfl) rfl ?_)
  (refine G.v (rv_load1 0 rfl rfl rfl) rfl ?_)
  refine G.v (rv_neq rfl rfl) rfl ?_
  refine G.done ?_
  refine G.thenN ?_
  refine G.cond rfl (fun hc => ?_) (fun hc => ?_)
  · try exact Bool.noConfusion hc
    all_goals
     try replace hc := of_decide_eq_true hc
     try (exfalso; contradiction)
     all_goals
      refine G.seq ?_
      refine G.region ?_
      refine G.v (rv_assign rfl) rfl ?_
      refine G.done ?_
      refine G.thenN ?_
      refine G.ret ?_
      refine G.thenR ?_
      refine G.retFV rfl rfl (congrArg Value.bool ?_); simp_all
  · try exact Bool.noConfusion hc
    all_goals
     try replace hc := of_decide_eq_false hc
     try (exfalso; contradiction)
     all_goals
      refine G.skip ?_
      refine G.thenN ?_
      refine G.seq ?_
      refine G.seq ?_
      refine G.region ?_
      (refine G.v (rv_field rfl) rfl ?_)
      (refine G.v (rv_load1 1 rfl rfl rfl) rfl ?_)
      (refine G.v (rv_field rfl) rfl ?_)
      (refine G.v (rv_load1 0 rfl rfl rfl) rfl ?_)
      refine G.v (rv_neq rfl rfl) rfl ?_
      refine G.done ?_
      refine G.thenN ?_
      refine G.cond rfl (fun hc => ?_) (fun hc => ?_)
      · try exact Bool.noConfusion hc
        all_goals
         try replace hc := of_decide_eq_true hc
         try (exfalso; contradiction)
         all_goals
          refine G.seq ?_
          refine G.region ?_
          refine G.v (rv_assign rfl) rfl ?_
          refine G.done ?_
          refine G.thenN ?_
          refine G.ret ?_
          refine G.thenR ?_
          refine G.retFV rfl rfl (congrArg Value.bool ?_); simp_all
      · try exact Bool.noConfusion hc
        all_goals
         try replace hc := of_decide_eq_false hc
         try (exfalso; contradiction)
         all_goals
          refine G.skip ?_
          refine G.thenN ?_
          refine G.seq ?_
          refine G.seq ?_
          refine G.region ?_
          (refine G.v (rv_field rfl) rfl ?_)
          (refine G.v (rv_load1 1 rfl rfl rfl) rfl ?_)
          (refine G.v (rv_field rfl) rfl ?_)
          (refine G.v (rv_load1 0 rfl rfl rfl) rfl ?_)
          refine G.v (rv_neq rfl rfl) rfl ?_
          refine G.done ?_
          refine G.thenN ?_
          refine G.cond rfl (fun hc => ?_) (fun hc => ?_)
          · try exact Bool.noConfusion hc
            all_goals
             try replace hc := of_decide_eq_true hc
             try (exfalso; contradiction)
             all_goals
              refine G.seq ?_
              refine G.region ?_
              refine G.v (rv_assign rfl) rfl ?_
              refine G.done ?_
              refine G.thenN ?_
              refine G.ret ?_
              refine G.thenR ?_
              refine G.retFV rfl rfl (congrArg Value.bool ?_); simp_all
          · try exact Bool.noConfusion hc
            all_goals
             try replace hc := of_decide_eq_false hc
             try (exfalso; contradiction)
             all_goals
              refine G.skip ?_
              refine G.thenN ?_
              refine G.seq ?_
              refine G.seq ?_
              refine G.region ?_
              (refine G.v (rv_field rfl) rfl ?_)
              (refine G.v (rv_load1 1 rfl rfl rfl) rfl ?_)
              (refine G.v (rv_field rfl) rfl ?_)
              (refine G.v (rv_load1 0 rfl rfl rfl) rfl ?_)
              refine G.v (rv_neq rfl rfl) rfl ?_
              refine G.done ?_
              refine G.thenN ?_
              refine G.cond rfl (fun hc => ?_) (fun hc => ?_)
              · try exact Bool.noConfusion hc
                all_goals
                 try replace hc := of_decide_eq_true hc
                 try (exfalso; contradiction)
                 all_goals
                  refine G.seq ?_
                  refine G.region ?_
                  refine G.v (rv_assign rfl) rfl ?_
                  refine G.done ?_
                  refine G.thenN ?_
                  refine G.ret ?_
                  refine G.thenR ?_
                  refine G.retFV rfl rfl (congrArg Value.bool ?_); simp_all
              · try exact Bool.noConfusion hc
                all_goals
                 try replace hc := of_decide_eq_false hc
                 try (exfalso; contradiction)
                 all_goals
                  refine G.skip ?_
                  refine G.thenN ?_
                  refine G.seq ?_
                  refine G.region ?_
                  refine G.v (rv_assign rfl) rfl ?_
                  refine G.done ?_
                  refine G.thenN ?_
                  refine G.ret ?_
                  refine G.retFV rfl rfl (congrArg Value.bool ?_); simp_all
theorem eqSpotS_any {u v : Value} {xs ys : List SpotM} (w : World) (h : Rd w u 4 (xs.map SpotM.cells)) (h2 : Rd w v 4 (ys.map SpotM.cells)) : FnV Try.prog 70 [u, v] w (.bool (decide (xs = ys))) := by
  have hle := h.le_map
  have hln : (xs.map SpotM.cells).length = xs.length := by simp
  have hln2 : (ys.map SpotM.cells).length = ys.length := by simp
  refine FnV.of (n := 27) Try.func70 rfl rfl ?_
  refine G.seq ?_
  refine G.region ?_
  refine G.v (rv_assign rfl) rfl ?_
  refine G.done ?_
  refine G.thenN ?_
  refine G.seq ?_
  refine G.seq ?_
  refine G.region ?_
  refine G.v (rv_move rfl) rfl ?_
  refine G.v (rv_len rfl (by exact Rd.stays (by assumption))) rfl ?_
  refine G.v (rv_move rfl) rfl ?_
  refine G.v (rv_len rfl (by exact Rd.stays (by assumption))) rfl ?_
  refine G.v (rv_neq rfl rfl) rfl ?_
  refine G.done ?_
  refine G.thenN ?_
  refine G.cond rfl (fun hc => ?_) (fun hc => ?_)
  · try exact Bool.noConfusion hc
    all_goals
     try replace hc := of_decide_eq_true hc
     try (exfalso; contradiction)
     all_goals
      refine G.seq ?_
      refine G.region ?_
      refine G.v (rv_assign rfl) rfl ?_
      refine G.done ?_
      refine G.thenN ?_
      refine G.ret ?_
      refine G.thenR ?_
      exact G.retFV rfl rfl (eqS_len hc)
  · try exact Bool.noConfusion hc
    all_goals
     try replace hc := of_decide_eq_false hc
     try (exfalso; contradiction)
     all_goals
      refine G.skip ?_
      refine G.thenN ?_
      refine G.seq ?_
      refine G.seq ?_
      refine G.region ?_
      refine G.v (rv_assign rfl) rfl ?_
      refine G.done ?_
      refine G.thenN ?_
      refine G.block ?_
      -- loop 0: turned [5], kept [0, 1]
      refine G.loopK (ι := Nat) (ks := [0, 1]) (fun k => [(5, .int .i64 k)]) (fun _ => []) (fun k => k ≤ xs.length ∧ xs.take k = ys.take k) (fun k => xs.length - k) 0 (.cons rfl (.cons rfl (.nil))) rfl ?_ ?_ ?_
      · exact ⟨Nat.zero_le _, rfl⟩
      · exact ⟨rfl, trivial⟩
      rintro k ⟨hk, ht⟩
      by_cases hlt : k < xs.length
      case' pos => (obtain ⟨a, ha⟩ := get_of_lt hlt; obtain ⟨b, hb⟩ := get_of_lt (l := ys) (k := k) (by omega); have he := get_map ha SpotM.cells; have he2 := get_map hb SpotM.cells)
      all_goals
       refine G.seq ?_
       refine G.seq ?_
       refine G.region ?_
       refine G.v (rv_move rfl) rfl ?_
       refine G.v (rv_move rfl) rfl ?_
       refine G.v (rv_len rfl (by exact Rd.stays (by assumption))) rfl ?_
       refine G.v (rv_lss rfl rfl) rfl ?_
       refine G.done ?_
       refine G.thenN ?_
       refine G.cond rfl (fun hc => ?_) (fun hc => ?_)
       · try exact Bool.noConfusion hc
         all_goals
          try replace hc := of_decide_eq_true hc
          try (exfalso; omega)
          all_goals
           refine G.skip ?_
           refine G.thenN ?_
           refine G.seq ?_
           refine G.block ?_
           refine G.seq ?_
           refine G.drawL [] ?_
           refine GE.q 0 rfl (by kernel_rfl) rfl (qg_runs (rv_move rfl)) rfl ?_
           refine GE.q 1 rfl (by kernel_rfl) rfl (qg_runs (rv_move rfl)) rfl ?_
           (refine GE.q 2 rfl (by kernel_rfl) rfl (qg_runs (rv_indexH rfl rfl (by exact Rd.stays (by assumption)) rfl (by assumption))) rfl ?_)
           (refine GE.q 3 rfl (by kernel_rfl) rfl (qg_runs (rv_loadEW rfl (by exact Rd.stays (by assumption)) (by assumption) rfl)) rfl ?_)
           refine GE.q 4 rfl (by kernel_rfl) rfl (qg_runs (rv_move rfl)) rfl ?_
           refine GE.ol 5 (by kernel_rfl) rfl rfl (og_runs (rv_move rfl)) rfl (fun _ _ h => by exact h) (fun _ _ => ?_)
           (refine GE.ol 6 (by kernel_rfl) rfl rfl (og_runs (rv_indexH rfl rfl (by exact Rd.stays (by assumption)) rfl (by assumption))) rfl (fun _ _ h => by exact h) (fun _ _ => ?_))
           (refine GE.ol 7 (by kernel_rfl) rfl rfl (og_runs (rv_loadEW rfl (by exact Rd.stays (by assumption)) (by assumption) rfl)) rfl (fun _ _ h => by exact h) (fun _ _ => ?_))
           refine GE.ol 8 (by kernel_rfl) rfl rfl (og_callV rfl rfl (fun w _ => eqSpot_any _ _ w)) rfl (fun _ _ h => by exact h) (fun _ _ => ?_)
           refine GE.ol 9 (by kernel_rfl) rfl rfl (og_runs (rv_not rfl)) rfl (fun _ _ h => by exact h) (fun _ _ => ?_)
           refine GE.done (by kernel_rfl) ?_
           refine G.thenN ?_
           refine G.cond rfl (fun hc => ?_) (fun hc => ?_)
           · try exact Bool.noConfusion hc
             all_goals
              try replace hc := of_decide_eq_true hc
              try (exfalso; contradiction)
              all_goals
               refine G.seq ?_
               refine G.region ?_
               refine G.v (rv_assign rfl) rfl ?_
               refine G.done ?_
               refine G.thenN ?_
               refine G.ret ?_
               refine G.inR ?_
               refine G.thenR ?_
               refine G.thenR ?_
               refine G.inR ?_
               refine G.thenR ?_
               exact G.retFV rfl rfl (eqS_elt ha hb hc)
           · try exact Bool.noConfusion hc
             all_goals
              try replace hc := of_decide_eq_false hc
              try (exfalso; contradiction)
              all_goals
               refine G.skip ?_
               refine G.inN ?_
               refine G.thenN ?_
               refine G.region ?_
               refine G.v (rv_move rfl) rfl ?_
               (refine G.v (rv_incr rfl rfl (by omega)) rfl ?_)
               refine G.v (rv_assign rfl) rfl ?_
               refine G.done ?_
               refine G.backK (k + 1) 0 rfl (.cons rfl (.cons rfl (.nil))) ?_ ?_ ?_
               · exact ⟨rfl, trivial⟩
               · exact ⟨hlt, eqS_next ht ha hb hc⟩
               · omega
       · try exact Bool.noConfusion hc
         all_goals
          try replace hc := of_decide_eq_false hc
          try (exfalso; omega)
          all_goals
           refine G.exit ?_
           refine G.thenX ?_
           refine G.thenX ?_
           refine G.inX ?_
           refine G.thenN ?_
           refine G.seq ?_
           refine G.region ?_
           refine G.v (rv_assign rfl) rfl ?_
           refine G.done ?_
           refine G.thenN ?_
           refine G.ret ?_
           exact G.retFV rfl rfl (eqS_all ht (by omega) hlt)

theorem pallets_any {v : Value} {bs : List SpotM} (w : World) (h : Rd w v 4 (bs.map SpotM.cells)) : FnV Try.prog 69 [v] w (.int .i64 (palletsM bs)) := by
  have hle := h.le_map
  refine FnV.of (n := 22) Try.func69 rfl rfl ?_
  refine G.seq ?_
  refine G.region ?_
  refine G.v (rv_assign rfl) rfl ?_
  refine G.done ?_
  refine G.thenN ?_
  refine G.seq ?_
  refine G.region ?_
  refine G.v (rv_assign rfl) rfl ?_
  refine G.done ?_
  refine G.thenN ?_
  refine G.seq ?_
  refine G.seq ?_
  refine G.region ?_
  refine G.v (rv_move rfl) rfl ?_
  refine G.v (rv_len rfl (by exact Rd.stays (by assumption))) rfl ?_
  refine G.v (rv_move rfl) rfl ?_
  refine G.done ?_
  refine G.thenN ?_
  refine G.block ?_
  -- loop 0: turned [3, 8], kept [6, 7]
  refine G.loopK (ι := Nat) (ks := [6, 7]) (fun k => [(3, .int .i64 (palletsM (bs.take k))), (8, .int .i64 k)]) (fun _ => []) (fun k => k ≤ bs.length) (fun k => bs.length - k) 0 (.cons rfl (.cons rfl (.nil))) rfl ?_ ?_ ?_
  · exact Nat.zero_le _
  · exact ⟨rfl, rfl, trivial⟩
  rintro k hk
  by_cases hlt : k < bs.length
  case' pos => (obtain ⟨b, hb⟩ := get_of_lt hlt; have he := get_map hb SpotM.cells; have ht := foldl_take_succ hb palStep 0)
  all_goals
   refine G.seq ?_
   refine G.region ?_
   refine G.v (rv_lss rfl rfl) rfl ?_
   refine G.done ?_
   refine G.thenN ?_
   refine G.seq ?_
   refine G.cond rfl (fun hc => ?_) (fun hc => ?_)
   · try exact Bool.noConfusion hc
     all_goals
      try replace hc := of_decide_eq_true hc
      try simp only [List.length_map] at hc
      try (have hc2 := hc; simp only [inB, Bool.and_eq_true, decide_eq_true_eq] at hc2)
      try (exfalso; omega)
      all_goals
       refine G.skip ?_
       refine G.thenN ?_
       refine G.seq ?_
       refine G.block ?_
       refine G.seq ?_
       refine G.region ?_
       (refine G.v (rv_indexH rfl rfl (by exact Rd.stays (by assumption)) rfl (by assumption)) rfl ?_)
       (refine G.v (rv_loadEW rfl (by exact Rd.stays (by assumption)) (by assumption) rfl) rfl ?_)
       refine G.op (og_alloc) rfl (fun bk5 _ => ?_)
       refine G.op0 (og_st0 rfl rfl rfl rfl rfl rfl (.zero (.cons (.cons (.cons (.cons .nil)))))) (fun _ _ => ?_)
       refine G.done ?_
       refine G.thenN ?_
       refine G.seq ?_
       refine G.region ?_
       (refine G.v (rv_field rfl) rfl ?_)
       refine G.v (rv_load1 0 rfl rfl rfl) rfl ?_
       refine G.op (og_callV rfl rfl (fun w _ => in_any _ _ _ w)) rfl (fun _ _ => ?_)
       refine G.done ?_
       refine G.thenN ?_
       refine G.cond rfl (fun hc => ?_) (fun hc => ?_)
       · try exact Bool.noConfusion hc
         all_goals
          try replace hc := of_decide_eq_true hc
          try simp only [List.length_map] at hc
          try (have hc2 := hc; simp only [inB, Bool.and_eq_true, decide_eq_true_eq] at hc2)
          try (exfalso; contradiction)
          all_goals
           refine G.region ?_
           refine G.v (rv_move rfl) rfl ?_
           (refine G.v (rv_field rfl) rfl ?_)
           refine G.v (rv_load1 0 rfl rfl rfl) rfl ?_
           (refine G.v (rv_addB rfl rfl (by omega) (by omega)) rfl ?_)
           refine G.v (rv_max rfl rfl) rfl ?_
           refine G.v (rv_assign rfl) rfl ?_
           refine G.done ?_
           refine G.inN ?_
           refine G.thenN ?_
           refine G.region ?_
           (refine G.v (rv_incr rfl rfl (by omega)) rfl ?_)
           refine G.v (rv_move rfl) rfl ?_
           refine G.done ?_
           refine G.backK (k + 1) 1 rfl (.cons rfl (.cons rfl (.nil))) ?_ ?_ ?_
           · exact ⟨congrArg (fun z => some (Value.int .i64 z)) (by refine Eq.trans ?_ ht.symm; simp [palStep, palletsM, *]), rfl, trivial⟩
           · exact hlt
           · omega
       · try exact Bool.noConfusion hc
         all_goals
          try replace hc := of_decide_eq_false hc
          try simp only [List.length_map] at hc
          try (have hc2 := hc; simp only [inB, Bool.and_eq_true, decide_eq_true_eq] at hc2)
          try (exfalso; contradiction)
          all_goals
           refine G.skip ?_
           refine G.inN ?_
           refine G.thenN ?_
           refine G.region ?_
           (refine G.v (rv_incr rfl rfl (by omega)) rfl ?_)
           refine G.v (rv_move rfl) rfl ?_
           refine G.done ?_
           refine G.backK (k + 1) 1 rfl (.cons rfl (.cons rfl (.nil))) ?_ ?_ ?_
           · exact ⟨congrArg (fun z => some (Value.int .i64 z)) (by refine Eq.trans ?_ ht.symm; simp [palStep, palletsM, *]), rfl, trivial⟩
           · exact hlt
           · omega
   · try exact Bool.noConfusion hc
     all_goals
      try replace hc := of_decide_eq_false hc
      try simp only [List.length_map] at hc
      try (have hc2 := hc; simp only [inB, Bool.and_eq_true, decide_eq_true_eq] at hc2)
      try (exfalso; omega)
      all_goals
       refine G.exit ?_
       refine G.thenX ?_
       refine G.thenX ?_
       refine G.inX ?_
       refine G.thenN ?_
       refine G.seq ?_
       refine G.region ?_
       refine G.v (rv_move rfl) rfl ?_
       refine G.v (rv_assign rfl) rfl ?_
       refine G.done ?_
       refine G.thenN ?_
       refine G.ret ?_
       exact G.retFV rfl rfl (by rw [take_all hlt])
end Go.Proofs.Yticgeijklhlonaa
