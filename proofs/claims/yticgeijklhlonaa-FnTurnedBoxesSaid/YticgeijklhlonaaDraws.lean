/-
  What the draws hand out: numbers in bounds, a cursor that is moved.
-/
import Derived.Test.YticgeijklhlonaaBits
import Derived.Test.YticgeijklhlonaaGeo1
namespace Go.Proofs.Yticgeijklhlonaa
open Go.RowKit
attribute [local irreducible] Go.wpList Go.Code.wp Go.Exit.then Go.Exit.inBlock Go.bodyPost Go.Calls pE pB G RunsV FnV Fn FnM
set_option maxRecDepth 100000
set_option maxHeartbeats 4000000

def bcell (z : Int) : List Value := [.int .u8 z]
theorem l1New_any {v : Value} {l : List Int} (w : World) (h : Rd w v 1 (l.map bcell)) : Fn Try.prog 73 [v] w (fun _ : Nat × Int => True) (fun x => pB x.1 0) (fun x => [.blk x.1 146 [v, .int .i64 (0 : Nat), .int .i64 x.2]]) := by
  have hle := h.le_map
  have hln : (l.map bcell).length = l.length := by simp
  have hone := h.one_
  refine Fn.of (n := 32) Try.func73 rfl rfl ?_
  refine G.seq ?_
  refine G.region ?_
  refine G.v (rv_assign rfl) rfl ?_
  refine G.done ?_
  refine G.thenN ?_
  refine G.seq ?_
  refine G.region ?_
  refine G.v (rv_move rfl) rfl ?_
  refine G.v (rv_len rfl (by exact Rd.stays (by assumption))) rfl ?_
  (refine G.v (rv_add rfl rfl) rfl ?_)
  refine G.v (rv_assign rfl) rfl ?_
  refine G.done ?_
  refine G.thenN ?_
  refine G.seq ?_
  refine G.seq ?_
  refine G.region ?_
  refine G.v (rv_assign rfl) rfl ?_
  refine G.done ?_
  refine G.thenN ?_
  refine G.block ?_
  -- loop 0: turned [3, 4], kept [0]
  refine G.loopK (ι := Nat × Int) (ks := [0]) (fun x => [(3, .int .i64 x.2), (4, .int .i64 x.1)]) (fun _ => []) (fun x => x.1 ≤ l.length) (fun x => l.length - x.1) (0, IntKind.i64.wrap (26583 + ((l.map bcell).length : Int))) (.cons rfl (.nil)) rfl ?_ ?_ ?_
  · exact Nat.zero_le _
  · exact ⟨rfl, rfl, trivial⟩
  rintro ⟨k, z⟩ hk
  by_cases hlt : k < l.length
  case' pos => (obtain ⟨b, hb⟩ := get_of_lt hlt; have he := get_map hb bcell)
  all_goals
   refine G.seq ?_
   refine G.seq ?_
   refine G.region ?_
   refine G.v (rv_move rfl) rfl ?_
   refine G.v (rv_move rfl) rfl ?_
   refine G.v (rv_len rfl (by exact Rd.stays (by assumption))) rfl ?_
   refine G.v (rv_lss rfl rfl) rfl ?_
   refine G.v (rv_move rfl) rfl ?_
   all_goals (((with_reducible refine G.gP rfl rfl (fun hg => ?_) (fun hg => ?_)) <;> (try exact Bool.noConfusion hg) <;> (first | (refine G.gY rfl rfl ?_; refine G.v (rv_move rfl) rfl ?_) | refine G.gN rfl rfl rfl ?_)))
   all_goals ((first | (refine G.gY rfl rfl ?_; refine G.v (rv_lss rfl rfl) rfl ?_) | refine G.gN rfl rfl rfl ?_))
   all_goals ((first | refine G.v (rv_pickT rfl rfl) rfl ?_ | refine G.v (rv_pickF rfl rfl) rfl ?_))
   all_goals
    refine G.done ?_
    refine G.thenN ?_
    refine G.cond rfl (fun hc => ?_) (fun hc => ?_)
    · try exact Bool.noConfusion hc
      all_goals
       try replace hc := of_decide_eq_true hc
       try (exfalso; have hq := of_decide_eq_true hg; simp only [List.length_map] at hq; omega)
       try (exfalso; contradiction)
       all_goals
        refine G.skip ?_
        refine G.thenN ?_
        refine G.seq ?_
        refine G.block ?_
        refine G.region ?_
        refine G.v (rv_move rfl) rfl ?_
        refine G.v (rv_mul rfl rfl) rfl ?_
        refine G.v (rv_move rfl) rfl ?_
        refine G.v (rv_move rfl) rfl ?_
        (refine G.v (rv_indexH rfl rfl (by exact Rd.stays (by assumption)) rfl (by assumption)) rfl ?_)
        refine G.v (rv_loadE rfl (by exact Rd.stays (by assumption)) (by assumption) rfl) rfl ?_
        refine G.v (rv_conv rfl) rfl ?_
        (refine G.v (rv_add rfl rfl) rfl ?_)
        (refine G.v (rv_add rfl rfl) rfl ?_)
        refine G.v (rv_and rfl rfl) rfl ?_
        refine G.v (rv_assign rfl) rfl ?_
        refine G.done ?_
        refine G.inN ?_
        refine G.thenN ?_
        refine G.region ?_
        refine G.v (rv_move rfl) rfl ?_
        (refine G.v (rv_incr rfl rfl (by omega)) rfl ?_)
        refine G.v (rv_assign rfl) rfl ?_
        refine G.done ?_
        refine G.backK (k + 1, bits .and .i64 (IntKind.i64.wrap (IntKind.i64.wrap (IntKind.i64.wrap (z * 131) + IntKind.i64.wrap b) + 7)) 1073741823) 0 rfl (.cons rfl (.nil)) ?_ ?_ ?_
        · exact ⟨rfl, rfl, trivial⟩
        · exact hlt
        · omega
    · try exact Bool.noConfusion hc
      all_goals
       try replace hc := of_decide_eq_false hc
       try (exfalso; have hq := of_decide_eq_true hg; simp only [List.length_map] at hq; omega)
       try (exfalso; contradiction)
       all_goals
        refine G.exit ?_
        refine G.thenX ?_
        refine G.thenX ?_
        refine G.inX ?_
        refine G.thenN ?_
        refine G.seq ?_
        refine G.region ?_
        refine G.v (rv_move rfl) rfl ?_
        refine G.v (rv_move rfl) rfl ?_
        refine G.v (rv_build2 rfl (.cons (cells_one (by assumption)) (.cons rfl .nil)) (.cons rfl rfl (.zero (.cons .nil)) (.cons rfl rfl (.succ (.succ (.zero (.cons .nil)))) .nil))) rfl ?_
        refine G.op (og_box rfl rfl) rfl (fun bk31 _ => ?_)
        refine G.v (rv_assign rfl) rfl ?_
        refine G.done ?_
        refine G.thenN ?_
        refine G.ret ?_
        exact G.retF (bk31, _) trivial rfl rfl rfl (fun w hw => hw)
theorem l1Byte_any {w0 : World} {v : Value} {l : List Int} {cb i : Nat} {h : Int} (hv : Rd w0 v 1 (l.map bcell)) (hi : i ≤ l.length) :
    FnM Try.prog 120 [pB cb 0] w0 [.blk cb 146 [v, .int .i64 i, .int .i64 h]] (fun x : Int × Nat × Int => (0 ≤ x.1 ∧ x.1 ≤ 255) ∧ x.2.1 ≤ l.length) (fun x => .int .i64 x.1) (fun x => [.blk cb 146 [v, .int .i64 x.2.1, .int .i64 x.2.2]]) := by
  have hle := hv.le_map
  have hone := hv.one_
  refine FnM.of (n := 58) Try.func120 rfl rfl (fun F => ?_)
  refine G.seq ?_
  refine G.region ?_
  refine G.v (rv_assign rfl) rfl ?_
  refine G.done ?_
  refine G.thenN ?_
  refine G.seq ?_
  refine G.region ?_
  refine G.v (rv_move rfl) rfl ?_
  refine G.v (rv_move rfl) rfl ?_
  (refine G.v (rv_nilCheckB rfl) rfl ?_)
  (refine G.v (rv_field rfl) rfl ?_)
  (refine G.v (rv_load1 0 rfl rfl rfl) rfl ?_)
  refine G.v (rv_mul rfl rfl) rfl ?_
  (refine G.v (rv_add rfl rfl) rfl ?_)
  (refine G.v (rv_nilCheckB rfl) rfl ?_)
  (refine G.v (rv_field rfl) rfl ?_)
  (refine G.op0 (og_st0 rfl rfl rfl rfl rfl rfl (.succ (.succ (.zero (.cons .nil))))) (fun _ _ => ?_))
  refine G.done ?_
  refine G.thenN ?_
  refine G.seq ?_
  refine G.drawL [12] ?_
  refine GE.q 0 rfl (by kernel_rfl) rfl (qg_runs (rv_move rfl)) rfl ?_
  (refine GE.q 1 rfl (by kernel_rfl) rfl (qg_runs (rv_nilCheckB rfl)) rfl ?_)
  (refine GE.q 2 rfl (by kernel_rfl) rfl (qg_runs (rv_field rfl)) rfl ?_)
  (refine GE.q 3 rfl (by kernel_rfl) rfl (qg_runs (rv_load1 0 rfl rfl rfl)) rfl ?_)
  refine GE.q 4 rfl (by kernel_rfl) rfl (qg_runs (rv_shr rfl rfl (by omega))) rfl ?_
  refine GE.ol 5 (by kernel_rfl) rfl rfl (og_runs (rv_move rfl)) rfl (fun _ _ h => by exact h) (fun _ _ => ?_)
  (refine GE.ol 6 (by kernel_rfl) rfl rfl (og_runs (rv_nilCheckB rfl)) rfl (fun _ _ h => by exact h) (fun _ _ => ?_))
  (refine GE.ol 7 (by kernel_rfl) rfl rfl (og_runs (rv_field rfl)) rfl (fun _ _ h => by exact h) (fun _ _ => ?_))
  (refine GE.ol 8 (by kernel_rfl) rfl rfl (og_runs (rv_load1 0 rfl rfl rfl)) rfl (fun _ _ h => by exact h) (fun _ _ => ?_))
  refine GE.ol 9 (by kernel_rfl) rfl rfl (og_runs (rv_shr rfl rfl (by omega))) rfl (fun _ _ h => by exact h) (fun _ _ => ?_)
  refine GE.ol 10 (by kernel_rfl) rfl rfl (og_runs (rv_xor rfl rfl)) rfl (fun _ _ h => by exact h) (fun _ _ => ?_)
  refine GE.ol 11 (by kernel_rfl) rfl rfl (og_runs (rv_and rfl rfl)) rfl (fun _ _ h => by exact h) (fun _ _ => ?_)
  refine GE.t 12 (by kernel_rfl) rfl rfl rfl (og_runs (rv_assign rfl)) rfl (fun _ _ => ?_)
  refine GE.done (by kernel_rfl) ?_
  refine G.thenN ?_
  refine G.seq ?_
  refine G.seq ?_
  refine G.drawL [] ?_
  refine GE.q 0 rfl (by kernel_rfl) rfl (qg_runs (rv_move rfl)) rfl ?_
  (refine GE.q 1 rfl (by kernel_rfl) rfl (qg_runs (rv_nilCheckB rfl)) rfl ?_)
  (refine GE.q 2 rfl (by kernel_rfl) rfl (qg_runs (rv_field rfl)) rfl ?_)
  (refine GE.q 3 rfl (by kernel_rfl) rfl (qg_runs (rv_load1 0 rfl rfl rfl)) rfl ?_)
  refine GE.ol 4 (by kernel_rfl) rfl rfl (og_runs (rv_move rfl)) rfl (fun _ _ h => by exact h) (fun _ _ => ?_)
  (refine GE.ol 5 (by kernel_rfl) rfl rfl (og_runs (rv_nilCheckB rfl)) rfl (fun _ _ h => by exact h) (fun _ _ => ?_))
  (refine GE.ol 6 (by kernel_rfl) rfl rfl (og_runs (rv_field rfl)) rfl (fun _ _ h => by exact h) (fun _ _ => ?_))
  (refine GE.ol 7 (by kernel_rfl) rfl rfl (og_runs (rv_load1 0 rfl rfl rfl)) rfl (fun _ _ h => by exact h) (fun _ _ => ?_))
  refine GE.ol 8 (by kernel_rfl) rfl rfl (og_runs (rv_len rfl (by exact Rd.stays (by assumption)))) rfl (fun _ _ h => by exact h) (fun _ _ => ?_)
  refine GE.ol 9 (by kernel_rfl) rfl rfl (og_runs (rv_lss rfl rfl)) rfl (fun _ _ h => by exact h) (fun _ _ => ?_)
  refine GE.done (by kernel_rfl) ?_
  refine G.thenN ?_
  refine G.cond rfl (fun hc => ?_) (fun hc => ?_)
  · try exact Bool.noConfusion hc
    all_goals
     try replace hc := of_decide_eq_true hc
     try (rcases Nat.lt_or_ge i l.length with h8 | h8; rotate_left; (exfalso; simp only [List.length_map] at hc; omega); obtain ⟨b, hb⟩ := get_of_lt h8; have he := get_map hb bcell; have hi2 := get_lt hb)
     try (exfalso; contradiction)
     all_goals
      refine G.seq ?_
      refine G.drawL [14] ?_
      refine GE.q 0 rfl (by kernel_rfl) rfl (qg_runs (rv_move rfl)) rfl ?_
      refine GE.q 1 rfl (by kernel_rfl) rfl (qg_runs (rv_move rfl)) rfl ?_
      (refine GE.q 2 rfl (by kernel_rfl) rfl (qg_runs (rv_nilCheckB rfl)) rfl ?_)
      (refine GE.q 3 rfl (by kernel_rfl) rfl (qg_runs (rv_field rfl)) rfl ?_)
      (refine GE.q 4 rfl (by kernel_rfl) rfl (qg_runs (rv_load1 0 rfl rfl rfl)) rfl ?_)
      refine GE.ol 5 (by kernel_rfl) rfl rfl (og_runs (rv_move rfl)) rfl (fun _ _ h => by exact h) (fun _ _ => ?_)
      (refine GE.ol 6 (by kernel_rfl) rfl rfl (og_runs (rv_nilCheckB rfl)) rfl (fun _ _ h => by exact h) (fun _ _ => ?_))
      (refine GE.ol 7 (by kernel_rfl) rfl rfl (og_runs (rv_field rfl)) rfl (fun _ _ h => by exact h) (fun _ _ => ?_))
      (refine GE.ol 8 (by kernel_rfl) rfl rfl (og_runs (rv_load1 0 rfl rfl rfl)) rfl (fun _ _ h => by exact h) (fun _ _ => ?_))
      (refine GE.ol 9 (by kernel_rfl) rfl rfl (og_runs (rv_indexH rfl rfl (by exact Rd.stays (by assumption)) rfl (by assumption))) rfl (fun _ _ h => by exact h) (fun _ _ => ?_))
      refine GE.ol 10 (by kernel_rfl) rfl rfl (og_runs (rv_loadE rfl (by exact Rd.stays (by assumption)) (by assumption) rfl)) rfl (fun _ _ h => by exact h) (fun _ _ => ?_)
      refine GE.ol 11 (by kernel_rfl) rfl rfl (og_runs (rv_conv rfl)) rfl (fun _ _ h => by exact h) (fun _ _ => ?_)
      (refine GE.ol 12 (by kernel_rfl) rfl rfl (og_runs (rv_add rfl rfl)) rfl (fun _ _ h => by exact h) (fun _ _ => ?_))
      refine GE.ol 13 (by kernel_rfl) rfl rfl (og_runs (rv_and rfl rfl)) rfl (fun _ _ h => by exact h) (fun _ _ => ?_)
      refine GE.t 14 (by kernel_rfl) rfl rfl rfl (og_runs (rv_assign rfl)) rfl (fun _ _ => ?_)
      refine GE.done (by kernel_rfl) ?_
      refine G.thenN ?_
      refine G.region ?_
      refine G.v (rv_move rfl) rfl ?_
      refine G.v (rv_move rfl) rfl ?_
      (refine G.v (rv_nilCheckB rfl) rfl ?_)
      (refine G.v (rv_field rfl) rfl ?_)
      (refine G.v (rv_load1 0 rfl rfl rfl) rfl ?_)
      (refine G.v (rv_incr rfl rfl (by omega)) rfl ?_)
      (refine G.v (rv_nilCheckB rfl) rfl ?_)
      (refine G.v (rv_field rfl) rfl ?_)
      (refine G.op0 (og_st0 rfl rfl rfl rfl rfl rfl (.succ (.zero (.cons .nil)))) (fun _ _ => ?_))
      refine G.done ?_
      refine G.thenN ?_
      refine G.seq ?_
      refine G.region ?_
      refine G.v (rv_move rfl) rfl ?_
      refine G.v (rv_assign rfl) rfl ?_
      refine G.done ?_
      refine G.thenN ?_
      refine G.ret ?_
      exact G.retF (_, i + 1, _) ⟨and255 _, hi2⟩ rfl rfl rfl (fun w hw => hw)
  · try exact Bool.noConfusion hc
    all_goals
     try replace hc := of_decide_eq_false hc
     try (rcases Nat.lt_or_ge i l.length with h8 | h8; rotate_left; (exfalso; simp only [List.length_map] at hc; omega); obtain ⟨b, hb⟩ := get_of_lt h8; have he := get_map hb bcell; have hi2 := get_lt hb)
     try (exfalso; contradiction)
     all_goals
      refine G.skip ?_
      refine G.thenN ?_
      refine G.seq ?_
      refine G.region ?_
      refine G.v (rv_move rfl) rfl ?_
      refine G.v (rv_assign rfl) rfl ?_
      refine G.done ?_
      refine G.thenN ?_
      refine G.ret ?_
      exact G.retF (_, i, _) ⟨and255 _, hi⟩ rfl rfl rfl (fun w hw => hw)
theorem l1Below_any {w0 : World} {v : Value} {l : List Int} {cb i : Nat} {h : Int} (m : Int) (hv : Rd w0 v 1 (l.map bcell)) (hi : i ≤ l.length) :
    FnM Try.prog 75 [pB cb 0, .int .i64 m] w0 [.blk cb 146 [v, .int .i64 i, .int .i64 h]] (fun x : Int × Nat × Int => (0 ≤ x.1 ∧ (0 < m → x.1 < m)) ∧ x.2.1 ≤ l.length) (fun x => .int .i64 x.1) (fun x => [.blk cb 146 [v, .int .i64 x.2.1, .int .i64 x.2.2]]) := by
  refine FnM.of (n := 37) Try.func75 rfl rfl (fun F => ?_)
  refine G.seq ?_
  refine G.region ?_
  refine G.v (rv_assign rfl) rfl ?_
  refine G.done ?_
  refine G.thenN ?_
  refine G.seq ?_
  refine G.seq ?_
  refine G.region ?_
  refine G.v (rv_move rfl) rfl ?_
  refine G.v (rv_leq rfl rfl) rfl ?_
  refine G.done ?_
  refine G.thenN ?_
  refine G.cond rfl (fun hc => ?_) (fun hc => ?_)
  · try exact Bool.noConfusion hc
    all_goals
     try replace hc := of_decide_eq_true hc
     try (exfalso; contradiction)
     all_goals
      refine G.seq ?_
      refine G.region ?_
      refine G.v (rv_assign rfl) rfl ?_
      refine G.done ?_
      refine G.thenN ?_
      refine G.ret ?_
      refine G.thenR ?_
      exact G.retF (_, _, _) ⟨⟨Int.le_refl 0, fun h0 => absurd h0 (by omega)⟩, hi⟩ rfl rfl rfl (fun w hw => hw)
  · try exact Bool.noConfusion hc
    all_goals
     try replace hc := of_decide_eq_false hc
     try (exfalso; contradiction)
     all_goals
      refine G.skip ?_
      refine G.thenN ?_
      refine G.seq ?_
      refine G.seq ?_
      refine G.region ?_
      refine G.v (rv_move rfl) rfl ?_
      refine G.v (rv_leq rfl rfl) rfl ?_
      refine G.done ?_
      refine G.thenN ?_
      refine G.cond rfl (fun hc => ?_) (fun hc => ?_)
      · try exact Bool.noConfusion hc
        all_goals
         try replace hc := of_decide_eq_true hc
         try (exfalso; contradiction)
         all_goals
          refine G.seq ?_
          refine G.region ?_
          refine G.v (rv_move rfl) rfl ?_
          ((refine G.op (og_callM0 rfl rfl rfl (l1Byte_any (by assumption) (by assumption)).toF) rfl ?_; rintro ⟨xr, xi, xh⟩ ⟨⟨hx0, hx1⟩, hxi⟩; try dsimp only))
          refine G.v (rv_move rfl) rfl ?_
          refine G.v (rv_rem rfl rfl (by omega)) rfl ?_
          refine G.v (rv_assign rfl) rfl ?_
          refine G.done ?_
          refine G.thenN ?_
          refine G.ret ?_
          refine G.thenR ?_
          exact G.retF (_, _, _) ⟨⟨Int.tmod_nonneg _ (by omega), fun _ => Int.tmod_lt_of_pos _ (by omega)⟩, by assumption⟩ rfl rfl rfl (fun w hw => hw)
      · try exact Bool.noConfusion hc
        all_goals
         try replace hc := of_decide_eq_false hc
         try (exfalso; contradiction)
         all_goals
          refine G.skip ?_
          refine G.thenN ?_
          refine G.seq ?_
          refine G.region ?_
          refine G.v (rv_move rfl) rfl ?_
          ((refine G.op (og_callM0 rfl rfl rfl (l1Byte_any (by assumption) (by assumption)).toF) rfl ?_; rintro ⟨xr, xi, xh⟩ ⟨⟨hx0, hx1⟩, hxi⟩; try dsimp only))
          refine G.v (rv_assign rfl) rfl ?_
          refine G.done ?_
          refine G.thenN ?_
          refine G.seq ?_
          refine G.region ?_
          refine G.v (rv_move rfl) rfl ?_
          ((refine G.op (og_callM0 rfl rfl rfl (l1Byte_any (by assumption) (by assumption)).toF) rfl ?_; rintro ⟨xr, xi, xh⟩ ⟨⟨hx0, hx1⟩, hxi⟩; try dsimp only))
          refine G.v (rv_assign rfl) rfl ?_
          refine G.done ?_
          refine G.thenN ?_
          refine G.seq ?_
          refine G.region ?_
          refine G.v (rv_move rfl) rfl ?_
          ((refine G.op (og_callM0 rfl rfl rfl (l1Byte_any (by assumption) (by assumption)).toF) rfl ?_; rintro ⟨xr, xi, xh⟩ ⟨⟨hx0, hx1⟩, hxi⟩; try dsimp only))
          refine G.v (rv_assign rfl) rfl ?_
          refine G.done ?_
          refine G.thenN ?_
          refine G.seq ?_
          refine G.region ?_
          refine G.v (rv_move rfl) rfl ?_
          ((refine G.op (og_callM0 rfl rfl rfl (l1Byte_any (by assumption) (by assumption)).toF) rfl ?_; rintro ⟨xr, xi, xh⟩ ⟨⟨hx0, hx1⟩, hxi⟩; try dsimp only))
          refine G.v (rv_assign rfl) rfl ?_
          refine G.done ?_
          refine G.thenN ?_
          refine G.seq ?_
          refine G.region ?_
          refine G.v (rv_move rfl) rfl ?_
          refine G.v (rv_mulB rfl rfl (by omega) (by omega)) rfl ?_
          refine G.v (rv_move rfl) rfl ?_
          refine G.v (rv_mulB rfl rfl (by omega) (by omega)) rfl ?_
          (refine G.v (rv_addB rfl rfl (by omega) (by omega)) rfl ?_)
          refine G.v (rv_move rfl) rfl ?_
          refine G.v (rv_mulB rfl rfl (by omega) (by omega)) rfl ?_
          (refine G.v (rv_addB rfl rfl (by omega) (by omega)) rfl ?_)
          refine G.v (rv_move rfl) rfl ?_
          (refine G.v (rv_addB rfl rfl (by omega) (by omega)) rfl ?_)
          refine G.v (rv_move rfl) rfl ?_
          refine G.v (rv_rem rfl rfl (by omega)) rfl ?_
          refine G.v (rv_assign rfl) rfl ?_
          refine G.done ?_
          refine G.thenN ?_
          refine G.ret ?_
          exact G.retF (_, _, _) ⟨⟨Int.tmod_nonneg _ (by omega), fun _ => Int.tmod_lt_of_pos _ (by omega)⟩, by assumption⟩ rfl rfl rfl (fun w hw => hw)
theorem l1Once_any {w0 : World} {v : Value} {l : List Int} {cb i : Nat} {h : Int} (m : Int) (hv : Rd w0 v 1 (l.map bcell)) (hi : i ≤ l.length) :
    FnM Try.prog 79 [pB cb 0, .int .i64 m] w0 [.blk cb 146 [v, .int .i64 i, .int .i64 h]] (fun x : Bool × Nat × Int => x.2.1 ≤ l.length) (fun x => .bool x.1) (fun x => [.blk cb 146 [v, .int .i64 x.2.1, .int .i64 x.2.2]]) := by
  refine FnM.of (n := 9) Try.func79 rfl rfl (fun F => ?_)
  refine G.seq ?_
  refine G.region ?_
  refine G.v (rv_assign rfl) rfl ?_
  refine G.done ?_
  refine G.thenN ?_
  refine G.seq ?_
  refine G.region ?_
  refine G.v (rv_move rfl) rfl ?_
  refine G.v (rv_move rfl) rfl ?_
  ((refine G.op (og_callM0 rfl rfl rfl (l1Below_any _ (by assumption) (by assumption)).toF) rfl ?_; rintro ⟨xr, xi, xh⟩ ⟨⟨hx0, hx1⟩, hxi⟩; try dsimp only))
  refine G.v (rv_eql rfl rfl) rfl ?_
  refine G.v (rv_assign rfl) rfl ?_
  refine G.done ?_
  refine G.thenN ?_
  refine G.ret ?_
  exact G.retF (_, _, _) hxi rfl rfl rfl (fun w hw => hw)
theorem l1PickInt_any {w0 : World} {F : List Ch} {v : Value} {l : List Int} {cb i : Nat} {h : Int} {u : Value} {es : List (List Value)} (hu : ∀ w, HeapOk w0 w F → Rd w u 1 es) (hn : Nat.ble 1 es.length = true) (hs : es.all (fun e => match e with | [.int .i64 _] => true | _ => false) = true) (hv : Rd w0 v 1 (l.map bcell)) (hi : i ≤ l.length) :
    FnMF Try.prog 119 [pB cb 0, u] w0 [.blk cb 146 [v, .int .i64 i, .int .i64 h]] F (fun x : Int × Nat × Int => [.int .i64 x.1] ∈ es ∧ x.2.1 ≤ l.length) (fun x => .int .i64 x.1) (fun x => [.blk cb 146 [v, .int .i64 x.2.1, .int .i64 x.2.2]]) := by
  have hn' := Nat.le_of_ble_eq_true hn
  have hu' : ∀ (c : Ch) w, HeapOk w0 w (c :: F) → Rd w u 1 es := fun c w hh => hu w hh.tail
  refine FnMF.of (n := 12) Try.func119 rfl rfl ?_
  refine G.seq ?_
  refine G.region ?_
  refine G.v (rv_assign rfl) rfl ?_
  refine G.done ?_
  refine G.thenN ?_
  refine G.seq ?_
  refine G.region ?_
  refine G.v (rv_move rfl) rfl ?_
  refine G.v (rv_move rfl) rfl ?_
  refine G.v (rv_move rfl) rfl ?_
  refine G.v (rv_len rfl (hu' _)) rfl ?_
  ((refine G.op (og_callM0 rfl rfl rfl (l1Below_any _ (by assumption) (by assumption)).toF) rfl ?_; rintro ⟨xr, xi, xh⟩ ⟨⟨hx0, hx1⟩, hxi⟩; try dsimp only))
  obtain ⟨k, rfl⟩ := Int.eq_ofNat_of_zero_le hx0; obtain ⟨e, he⟩ := get_of_lt (l := es) (k := k) (by omega); have hme := List.mem_of_getElem? he; obtain ⟨z, rfl⟩ := pick_int (List.all_eq_true.1 hs e hme)
  (refine G.v (rv_indexH rfl rfl (hu' _) rfl (by assumption)) rfl ?_)
  refine G.v (rv_loadE rfl (hu' _) (by assumption) rfl) rfl ?_
  refine G.v (rv_assign rfl) rfl ?_
  refine G.done ?_
  refine G.thenN ?_
  refine G.ret ?_
  exact G.retF (z, _, _) ⟨hme, hxi⟩ rfl rfl rfl (fun w hw => hw)
theorem l12Box_any {w0 : World} {v : Value} {l : List Int} {cb i : Nat} {h : Int} (hv : Rd w0 v 1 (l.map bcell)) (hi : i ≤ l.length) :
    FnM Try.prog 74 [pB cb 0] w0 [.blk cb 146 [v, .int .i64 i, .int .i64 h]] (fun x : BoxM × SpotM × Nat × Int => x.2.2.1 ≤ l.length) (fun x => .tuple #[x.1.val, x.2.1.val]) (fun x => [.blk cb 146 [v, .int .i64 x.2.2.1, .int .i64 x.2.2.2]]) := by
  refine FnM.of (n := 44) Try.func74 rfl rfl (fun F => ?_)
  refine G.seq ?_
  refine G.region ?_
  refine G.op (og_alloc) rfl (fun bk2 _ => ?_)
  refine G.op (og_alloc) rfl (fun bk3 _ => ?_)
  refine G.done ?_
  refine G.thenN ?_
  refine G.seq ?_
  refine G.region ?_
  refine G.v (rv_move rfl) rfl ?_
  ((refine G.op (og_callM2 rfl rfl rfl (l1Below_any _ (by assumption) (by assumption)).toF) rfl ?_; rintro ⟨xr, xi, xh⟩ ⟨⟨hx0, hx1⟩, hxi⟩; try dsimp only))
  (refine G.v (rv_addB rfl rfl (by omega) (by omega)) rfl ?_)
  refine G.v (rv_move rfl) rfl ?_
  ((refine G.op (og_callM0 rfl rfl rfl (l1Below_any _ (by assumption) (by assumption)).toF) rfl ?_; rintro ⟨xr, xi, xh⟩ ⟨⟨hx0, hx1⟩, hxi⟩; try dsimp only))
  (refine G.v (rv_addB rfl rfl (by omega) (by omega)) rfl ?_)
  refine G.v (rv_move rfl) rfl ?_
  ((refine G.op (og_callM0 rfl rfl rfl (l1Below_any _ (by assumption) (by assumption)).toF) rfl ?_; rintro ⟨xr, xi, xh⟩ ⟨⟨hx0, hx1⟩, hxi⟩; try dsimp only))
  (refine G.v (rv_addB rfl rfl (by omega) (by omega)) rfl ?_)
  refine G.v (rv_build2 rfl (.cons rfl (.cons rfl (.cons rfl (.cons rfl .nil)))) (.cons rfl rfl (.zero (.cons .nil)) (.cons rfl rfl (.succ (.zero (.cons .nil))) (.cons rfl rfl (.succ (.succ (.zero (.cons .nil)))) (.cons rfl rfl (.succ (.succ (.succ (.zero (.cons .nil))))) .nil))))) rfl ?_
  refine G.op (og_alloc) rfl (fun bk4 _ => ?_)
  (refine G.op0 (og_st0 rfl rfl rfl rfl rfl rfl (.zero (.cons (.cons (.cons (.cons .nil)))))) (fun _ _ => ?_))
  refine G.done ?_
  refine G.thenN ?_
  refine G.seq ?_
  refine G.region ?_
  refine G.v (rv_move rfl) rfl ?_
  ((refine G.op (og_callM1 rfl rfl rfl (l1Below_any _ (by assumption) (by assumption)).toF) rfl ?_; rintro ⟨xr, xi, xh⟩ ⟨⟨hx0, hx1⟩, hxi⟩; try dsimp only))
  refine G.v (rv_move rfl) rfl ?_
  ((refine G.op (og_callM0 rfl rfl rfl (l1Below_any _ (by assumption) (by assumption)).toF) rfl ?_; rintro ⟨xr, xi, xh⟩ ⟨⟨hx0, hx1⟩, hxi⟩; try dsimp only))
  refine G.v (rv_move rfl) rfl ?_
  ((refine G.op (og_callM0 rfl rfl rfl (l1Below_any _ (by assumption) (by assumption)).toF) rfl ?_; rintro ⟨xr, xi, xh⟩ ⟨⟨hx0, hx1⟩, hxi⟩; try dsimp only))
  refine G.v (rv_move rfl) rfl ?_
  ((refine G.op (og_callM0 rfl rfl rfl (l1Below_any _ (by assumption) (by assumption)).toF) rfl ?_; rintro ⟨xr, xi, xh⟩ ⟨⟨hx0, hx1⟩, hxi⟩; try dsimp only))
  refine G.v (rv_build2 rfl (.cons rfl (.cons rfl (.cons rfl (.cons rfl .nil)))) (.cons rfl rfl (.zero (.cons .nil)) (.cons rfl rfl (.succ (.zero (.cons .nil))) (.cons rfl rfl (.succ (.succ (.zero (.cons .nil)))) (.cons rfl rfl (.succ (.succ (.succ (.zero (.cons .nil))))) .nil))))) rfl ?_
  refine G.op (og_alloc) rfl (fun bk5 _ => ?_)
  (refine G.op0 (og_st0 rfl rfl rfl rfl rfl rfl (.zero (.cons (.cons (.cons (.cons .nil)))))) (fun _ _ => ?_))
  refine G.done ?_
  refine G.thenN ?_
  refine G.seq ?_
  refine G.seq ?_
  refine G.region ?_
  refine G.v (rv_move rfl) rfl ?_
  ((refine G.op (og_callM1 rfl rfl rfl (l1Below_any _ (by assumption) (by assumption)).toF) rfl ?_; rintro ⟨xr, xi, xh⟩ ⟨⟨hx0, hx1⟩, hxi⟩; try dsimp only))
  refine G.done ?_
  refine G.thenN ?_
  refine G.block ?_
  refine G.seq ?_
  refine G.region ?_
  refine G.v (rv_eql rfl rfl) rfl ?_
  refine G.v (rv_assign rfl) rfl ?_
  refine G.done ?_
  refine G.thenN ?_
  refine G.cond rfl (fun hc => ?_) (fun hc => ?_)
  · try exact Bool.noConfusion hc
    all_goals
     try replace hc := of_decide_eq_true hc
     try (exfalso; contradiction)
     all_goals
      refine G.region ?_
      refine G.v (rv_move rfl) rfl ?_
      refine G.op (og_lit rfl (.cons rfl (.cons rfl (.cons rfl (.cons rfl .nil)))) rfl rfl rfl rfl rfl rfl) rfl (fun vl _ => ?_)
      ((refine G.op (og_callM1 rfl rfl rfl (l1PickInt_any (by exact Rd.owned 0 rfl) rfl rfl (by assumption) (by assumption))) rfl ?_; rintro ⟨xr, xi, xh⟩ ⟨hxm, hxi⟩; try dsimp only))
      (refine G.v (rv_field rfl) rfl ?_)
      (refine G.op0 (og_st2 rfl rfl rfl rfl rfl rfl (.succ (.zero (.cons .nil)))) (fun _ _ => ?_))
      refine G.done ?_
      refine G.inN ?_
      refine G.thenN ?_
      refine G.seq ?_
      refine G.frontB5 bk2 rfl ?_
      refine G.drawD1 [3] rfl ?_
      (refine GE.q2 0 rfl (by kernel_rfl) rfl (qg_runs (rv_loadW 3 rfl rfl rfl)) (fun _ h => by exact h.drop 1) rfl ?_)
      (refine GE.q2 1 rfl (by kernel_rfl) rfl (qg_runs (rv_loadW 2 rfl rfl rfl)) (fun _ h => by exact h.drop 1) rfl ?_)
      (refine GE.ol0 2 (by kernel_rfl) rfl rfl (og_st0 rfl rfl rfl rfl rfl rfl (.zero (.cons (.cons (.cons (.cons .nil)))))) (fun _ _ h => by exact h.drop 1) (fun _ _ => ?_))
      (refine GE.t0 3 (by kernel_rfl) rfl rfl rfl (og_st5 rfl rfl rfl rfl rfl rfl (.zero (.cons (.cons (.cons (.cons .nil)))))) (fun _ _ => ?_))
      refine GE.done (by kernel_rfl) ?_
      refine G.thenN ?_
      refine G.ret ?_
      exact G.retL (⟨_, _, _, _⟩, ⟨_, _, _, _⟩, _, _) hxi rfl (.cons (by exact .cell 0 rfl rfl rfl) (.cons (by exact .cell 5 rfl rfl rfl) .nil)) rfl (fun w hh => hh.sublist (by repeat (first | exact List.Sublist.refl _ | refine List.Sublist.cons_cons _ ?_ | refine List.Sublist.cons _ ?_)))
  · try exact Bool.noConfusion hc
    all_goals
     try replace hc := of_decide_eq_false hc
     try (exfalso; contradiction)
     all_goals
      refine G.seq ?_
      refine G.region ?_
      refine G.v (rv_eql rfl rfl) rfl ?_
      refine G.v (rv_assign rfl) rfl ?_
      refine G.done ?_
      refine G.thenN ?_
      refine G.cond rfl (fun hc => ?_) (fun hc => ?_)
      · try exact Bool.noConfusion hc
        all_goals
         try replace hc := of_decide_eq_true hc
         try (exfalso; contradiction)
         all_goals
          refine G.region ?_
          refine G.v (rv_move rfl) rfl ?_
          refine G.op (og_lit rfl (.cons rfl (.cons rfl (.cons rfl (.cons rfl .nil)))) rfl rfl rfl rfl rfl rfl) rfl (fun vl _ => ?_)
          ((refine G.op (og_callM1 rfl rfl rfl (l1PickInt_any (by exact Rd.owned 0 rfl) rfl rfl (by assumption) (by assumption))) rfl ?_; rintro ⟨xr, xi, xh⟩ ⟨hxm, hxi⟩; try dsimp only))
          (refine G.v (rv_field rfl) rfl ?_)
          (refine G.op0 (og_st3 rfl rfl rfl rfl rfl rfl (.succ (.succ (.zero (.cons .nil))))) (fun _ _ => ?_))
          refine G.done ?_
          refine G.inN ?_
          refine G.thenN ?_
          refine G.seq ?_
          refine G.frontB5 bk2 rfl ?_
          refine G.drawD1 [3] rfl ?_
          (refine GE.q2 0 rfl (by kernel_rfl) rfl (qg_runs (rv_loadW 3 rfl rfl rfl)) (fun _ h => by exact h.drop 1) rfl ?_)
          (refine GE.q2 1 rfl (by kernel_rfl) rfl (qg_runs (rv_loadW 2 rfl rfl rfl)) (fun _ h => by exact h.drop 1) rfl ?_)
          (refine GE.ol0 2 (by kernel_rfl) rfl rfl (og_st0 rfl rfl rfl rfl rfl rfl (.zero (.cons (.cons (.cons (.cons .nil)))))) (fun _ _ h => by exact h.drop 1) (fun _ _ => ?_))
          (refine GE.t0 3 (by kernel_rfl) rfl rfl rfl (og_st5 rfl rfl rfl rfl rfl rfl (.zero (.cons (.cons (.cons (.cons .nil)))))) (fun _ _ => ?_))
          refine GE.done (by kernel_rfl) ?_
          refine G.thenN ?_
          refine G.ret ?_
          exact G.retL (⟨_, _, _, _⟩, ⟨_, _, _, _⟩, _, _) hxi rfl (.cons (by exact .cell 0 rfl rfl rfl) (.cons (by exact .cell 5 rfl rfl rfl) .nil)) rfl (fun w hh => hh.sublist (by repeat (first | exact List.Sublist.refl _ | refine List.Sublist.cons_cons _ ?_ | refine List.Sublist.cons _ ?_)))
      · try exact Bool.noConfusion hc
        all_goals
         try replace hc := of_decide_eq_false hc
         try (exfalso; contradiction)
         all_goals
          refine G.seq ?_
          refine G.region ?_
          refine G.v (rv_eql rfl rfl) rfl ?_
          refine G.v (rv_assign rfl) rfl ?_
          refine G.done ?_
          refine G.thenN ?_
          refine G.cond rfl (fun hc => ?_) (fun hc => ?_)
          · try exact Bool.noConfusion hc
            all_goals
             try replace hc := of_decide_eq_true hc
             try (exfalso; contradiction)
             all_goals
              refine G.region ?_
              (refine G.v (rv_field rfl) rfl ?_)
              (refine G.op0 (og_st2 rfl rfl rfl rfl rfl rfl (.zero (.cons .nil))) (fun _ _ => ?_))
              refine G.done ?_
              refine G.inN ?_
              refine G.thenN ?_
              refine G.seq ?_
              refine G.frontB4 bk2 rfl ?_
              refine G.drawD1 [3] rfl ?_
              (refine GE.q2 0 rfl (by kernel_rfl) rfl (qg_runs (rv_loadW 2 rfl rfl rfl)) (fun _ h => by exact h.drop 1) rfl ?_)
              (refine GE.q2 1 rfl (by kernel_rfl) rfl (qg_runs (rv_loadW 1 rfl rfl rfl)) (fun _ h => by exact h.drop 1) rfl ?_)
              (refine GE.ol0 2 (by kernel_rfl) rfl rfl (og_st0 rfl rfl rfl rfl rfl rfl (.zero (.cons (.cons (.cons (.cons .nil)))))) (fun _ _ h => by exact h.drop 1) (fun _ _ => ?_))
              (refine GE.t0 3 (by kernel_rfl) rfl rfl rfl (og_st4 rfl rfl rfl rfl rfl rfl (.zero (.cons (.cons (.cons (.cons .nil)))))) (fun _ _ => ?_))
              refine GE.done (by kernel_rfl) ?_
              refine G.thenN ?_
              refine G.ret ?_
              exact G.retL (⟨_, _, _, _⟩, ⟨_, _, _, _⟩, _, _) hxi rfl (.cons (by exact .cell 0 rfl rfl rfl) (.cons (by exact .cell 4 rfl rfl rfl) .nil)) rfl (fun w hh => hh.sublist (by repeat (first | exact List.Sublist.refl _ | refine List.Sublist.cons_cons _ ?_ | refine List.Sublist.cons _ ?_)))
          · try exact Bool.noConfusion hc
            all_goals
             try replace hc := of_decide_eq_false hc
             try (exfalso; contradiction)
             all_goals
              refine G.skip ?_
              refine G.inN ?_
              refine G.thenN ?_
              refine G.seq ?_
              refine G.frontB4 bk2 rfl ?_
              refine G.drawD1 [3] rfl ?_
              (refine GE.q2 0 rfl (by kernel_rfl) rfl (qg_runs (rv_loadW 2 rfl rfl rfl)) (fun _ h => by exact h.drop 1) rfl ?_)
              (refine GE.q2 1 rfl (by kernel_rfl) rfl (qg_runs (rv_loadW 1 rfl rfl rfl)) (fun _ h => by exact h.drop 1) rfl ?_)
              (refine GE.ol0 2 (by kernel_rfl) rfl rfl (og_st0 rfl rfl rfl rfl rfl rfl (.zero (.cons (.cons (.cons (.cons .nil)))))) (fun _ _ h => by exact h.drop 1) (fun _ _ => ?_))
              (refine GE.t0 3 (by kernel_rfl) rfl rfl rfl (og_st4 rfl rfl rfl rfl rfl rfl (.zero (.cons (.cons (.cons (.cons .nil)))))) (fun _ _ => ?_))
              refine GE.done (by kernel_rfl) ?_
              refine G.thenN ?_
              refine G.ret ?_
              exact G.retL (⟨_, _, _, _⟩, ⟨_, _, _, _⟩, _, _) hxi rfl (.cons (by exact .cell 0 rfl rfl rfl) (.cons (by exact .cell 4 rfl rfl rfl) .nil)) rfl (fun w hh => hh.sublist (by repeat (first | exact List.Sublist.refl _ | refine List.Sublist.cons_cons _ ?_ | refine List.Sublist.cons _ ?_)))
theorem drawWithin_any {v : Value} {l : List Int} (w : World) (h : Rd w v 1 (l.map bcell)) : Fn Try.prog 17 [v] w (fun x : PalletM × BoxM × SpotM => 6 ≤ x.1.w ∧ x.1.w ≤ 8) (fun x => .tuple #[x.1.val, x.2.1.val, x.2.2.val]) (fun _ => []) := by
  have h0 : 0 ≤ l.length := Nat.zero_le _
  refine Fn.of (n := 24) Try.func17 rfl rfl ?_
  refine G.seq ?_
  refine G.region ?_
  refine G.op (og_alloc) rfl (fun bk2 _ => ?_)
  refine G.op (og_alloc) rfl (fun bk3 _ => ?_)
  refine G.op (og_alloc) rfl (fun bk4 _ => ?_)
  refine G.done ?_
  refine G.thenN ?_
  refine G.seq ?_
  refine G.region ?_
  refine G.v (rv_move rfl) rfl ?_
  ((refine G.op (og_callF1 rfl rfl (fun w hh => l1New_any w (by exact Rd.stays (by assumption) _ hh))) rfl ?_; rintro ⟨cb, ch⟩ _; try dsimp only))
  refine G.v (rv_assign rfl) rfl ?_
  refine G.done ?_
  refine G.thenN ?_
  refine G.seq ?_
  refine G.region ?_
  refine G.v (rv_move rfl) rfl ?_
  ((refine G.op (og_callM0 rfl rfl rfl (l12Box_any (by assumption) (by assumption)).toF) rfl ?_; rintro ⟨⟨b1, b2, b3, b4⟩, ⟨s1, s2, s3, s4⟩, xi, xh⟩ hxi; try dsimp only))
  refine G.v (rv_move rfl) rfl ?_
  refine G.v (rv_extract rfl rfl) rfl ?_
  refine G.v (rv_extract rfl rfl) rfl ?_
  refine G.op (og_alloc) rfl (fun bk6 _ => ?_)
  refine G.op (og_alloc) rfl (fun bk7 _ => ?_)
  (refine G.op0 (og_st1 rfl rfl rfl rfl rfl rfl (.zero (.cons (.cons (.cons (.cons .nil)))))) (fun _ _ => ?_))
  (refine G.op0 (og_st0 rfl rfl rfl rfl rfl rfl (.zero (.cons (.cons (.cons (.cons .nil)))))) (fun _ _ => ?_))
  refine G.done ?_
  refine G.thenN ?_
  refine G.seq ?_
  refine G.frontB2 cb rfl ?_
  refine G.frontB5 bk2 rfl ?_
  refine G.frontB5 bk3 rfl ?_
  refine G.drawD3 [11] rfl ?_
  refine GE.q2 0 rfl (by kernel_rfl) rfl (qg_runs (rv_move rfl)) (fun _ h => by exact h.drop 3) rfl ?_
  refine GE.q2 3 rfl (by kernel_rfl) rfl (qg_runs (rv_move rfl)) (fun _ h => by exact h.drop 3) rfl ?_
  (refine GE.q2 7 rfl (by kernel_rfl) rfl (qg_runs (rv_loadW 1 rfl rfl rfl)) (fun _ h => by exact h.drop 3) rfl ?_)
  (refine GE.q2 8 rfl (by kernel_rfl) rfl (qg_runs (rv_loadW 0 rfl rfl rfl)) (fun _ h => by exact h.drop 3) rfl ?_)
  ((refine GE.ol 1 (by kernel_rfl) rfl rfl (og_callM2 rfl rfl rfl (l1Below_any _ (by assumption) (by assumption)).toF) rfl (fun _ _ h => by exact h.drop 3) ?_; rintro ⟨xr, xi, xh⟩ ⟨⟨hx0, hx1⟩, hxi⟩; try dsimp only))
  have hp1 : 6 ≤ 6 + xr := by omega
  have hp2 : 6 + xr ≤ 8 := by omega
  (refine GE.q2 2 rfl (by kernel_rfl) rfl (qg_runs (rv_addB rfl rfl (by omega) (by omega))) (fun _ h => by exact h.drop 3) rfl ?_)
  ((refine GE.ol 4 (by kernel_rfl) rfl rfl (og_callM0 rfl rfl rfl (l1Below_any _ (by assumption) (by assumption)).toF) rfl (fun _ _ h => by exact h.drop 3) ?_; rintro ⟨xr, xi, xh⟩ ⟨⟨hx0, hx1⟩, hxi⟩; try dsimp only))
  (refine GE.ol 5 (by kernel_rfl) rfl rfl (og_runs (rv_addB rfl rfl (by omega) (by omega))) rfl (fun _ _ h => by exact h.drop 3) (fun _ _ => ?_))
  refine GE.ol 6 (by kernel_rfl) rfl rfl (og_runs (rv_build2 rfl (.cons rfl (.cons rfl (.cons rfl (.cons rfl .nil)))) (.cons rfl rfl (.zero (.cons .nil)) (.cons rfl rfl (.succ (.zero (.cons .nil))) (.cons rfl rfl (.succ (.succ (.zero (.cons .nil)))) (.cons rfl rfl (.succ (.succ (.succ (.zero (.cons .nil))))) .nil)))))) rfl (fun _ _ h => by exact h.drop 3) (fun _ _ => ?_)
  (refine GE.ol0 9 (by kernel_rfl) rfl rfl (og_st2 rfl rfl rfl rfl rfl rfl (.zero (.cons (.cons (.cons (.cons .nil)))))) (fun _ _ h => by exact h.drop 3) (fun _ _ => ?_))
  (refine GE.ol0 10 (by kernel_rfl) rfl rfl (og_st1 rfl rfl rfl rfl rfl rfl (.zero (.cons (.cons (.cons (.cons .nil)))))) (fun _ _ h => by exact h.drop 3) (fun _ _ => ?_))
  (refine GE.t0 11 (by kernel_rfl) rfl rfl rfl (og_st5 rfl rfl rfl rfl rfl rfl (.zero (.cons (.cons (.cons (.cons .nil)))))) (fun _ _ => ?_))
  refine GE.done (by kernel_rfl) ?_
  refine G.thenN ?_
  refine G.ret ?_
  exact G.retL (⟨_, _, _, _⟩, ⟨_, _, _, _⟩, ⟨_, _, _, _⟩) ⟨hp1, hp2⟩ rfl (.cons (by exact .cell 2 rfl rfl rfl) (.cons (by exact .cell 1 rfl rfl rfl) (.cons (by exact .cell 5 rfl rfl rfl) .nil))) rfl (fun w hh => hh.none)
theorem drawOverlap_any {v : Value} {l : List Int} (w : World) (h : Rd w v 1 (l.map bcell)) : Fn Try.prog 20 [v] w (fun _ : BoxM × SpotM × BoxM × SpotM => True) (fun x => .tuple #[x.1.val, x.2.1.val, x.2.2.1.val, x.2.2.2.val]) (fun _ => []) := by
  have h0 : 0 ≤ l.length := Nat.zero_le _
  refine Fn.of (n := 33) Try.func20 rfl rfl ?_
  refine G.seq ?_
  refine G.region ?_
  refine G.op (og_alloc) rfl (fun bk2 _ => ?_)
  refine G.op (og_alloc) rfl (fun bk3 _ => ?_)
  refine G.op (og_alloc) rfl (fun bk4 _ => ?_)
  refine G.op (og_alloc) rfl (fun bk5 _ => ?_)
  refine G.done ?_
  refine G.thenN ?_
  refine G.seq ?_
  refine G.region ?_
  refine G.v (rv_move rfl) rfl ?_
  ((refine G.op (og_callF1 rfl rfl (fun w hh => l1New_any w (by exact Rd.stays (by assumption) _ hh))) rfl ?_; rintro ⟨cb, ch⟩ _; try dsimp only))
  refine G.v (rv_assign rfl) rfl ?_
  refine G.done ?_
  refine G.thenN ?_
  refine G.seq ?_
  refine G.region ?_
  refine G.v (rv_move rfl) rfl ?_
  ((refine G.op (og_callM0 rfl rfl rfl (l12Box_any (by assumption) (by assumption)).toF) rfl ?_; rintro ⟨⟨b1, b2, b3, b4⟩, ⟨s1, s2, s3, s4⟩, xi, xh⟩ hxi; try dsimp only))
  refine G.v (rv_move rfl) rfl ?_
  refine G.v (rv_extract rfl rfl) rfl ?_
  refine G.v (rv_extract rfl rfl) rfl ?_
  refine G.op (og_alloc) rfl (fun bk7 _ => ?_)
  refine G.op (og_alloc) rfl (fun bk8 _ => ?_)
  (refine G.op0 (og_st1 rfl rfl rfl rfl rfl rfl (.zero (.cons (.cons (.cons (.cons .nil)))))) (fun _ _ => ?_))
  (refine G.op0 (og_st0 rfl rfl rfl rfl rfl rfl (.zero (.cons (.cons (.cons (.cons .nil)))))) (fun _ _ => ?_))
  refine G.done ?_
  refine G.thenN ?_
  refine G.seq ?_
  refine G.region ?_
  refine G.v (rv_move rfl) rfl ?_
  ((refine G.op (og_callM2 rfl rfl rfl (l12Box_any (by assumption) (by assumption)).toF) rfl ?_; rintro ⟨⟨b1, b2, b3, b4⟩, ⟨s1, s2, s3, s4⟩, xi, xh⟩ hxi; try dsimp only))
  refine G.v (rv_move rfl) rfl ?_
  refine G.v (rv_extract rfl rfl) rfl ?_
  refine G.v (rv_extract rfl rfl) rfl ?_
  refine G.op (og_alloc) rfl (fun bk9 _ => ?_)
  refine G.op (og_alloc) rfl (fun bk10 _ => ?_)
  (refine G.op0 (og_st1 rfl rfl rfl rfl rfl rfl (.zero (.cons (.cons (.cons (.cons .nil)))))) (fun _ _ => ?_))
  (refine G.op0 (og_st0 rfl rfl rfl rfl rfl rfl (.zero (.cons (.cons (.cons (.cons .nil)))))) (fun _ _ => ?_))
  refine G.done ?_
  refine G.thenN ?_
  refine G.seq ?_
  refine G.seq ?_
  refine G.region ?_
  refine G.v (rv_move rfl) rfl ?_
  ((refine G.op (og_callM2 rfl rfl rfl (l1Once_any _ (by assumption) (by assumption)).toF) rfl ?_; rintro ⟨xr, xi, xh⟩ hxi; try dsimp only))
  refine G.v (rv_not rfl) rfl ?_
  refine G.done ?_
  refine G.thenN ?_
  refine G.cond rfl (fun hc => ?_) (fun hc => ?_)
  · try exact Bool.noConfusion hc
    all_goals
     try replace hc := of_decide_eq_true hc
     try (exfalso; contradiction)
     all_goals
      refine G.region ?_
      (refine G.v (rv_field rfl) rfl ?_)
      (refine G.v (rv_load1 3 rfl rfl rfl) rfl ?_)
      (refine G.v (rv_field rfl) rfl ?_)
      (refine G.op0 (og_st1 rfl rfl rfl rfl rfl rfl (.zero (.cons .nil))) (fun _ _ => ?_))
      refine G.done ?_
      refine G.thenN ?_
      refine G.seq ?_
      refine G.frontB8 bk2 rfl ?_
      refine G.frontB8 bk3 rfl ?_
      refine G.frontB8 bk4 rfl ?_
      refine G.drawD3 [7] rfl ?_
      (refine GE.q2 0 rfl (by kernel_rfl) rfl (qg_runs (rv_loadW 4 rfl rfl rfl)) (fun _ h => by exact h.drop 3) rfl ?_)
      (refine GE.q2 1 rfl (by kernel_rfl) rfl (qg_runs (rv_loadW 3 rfl rfl rfl)) (fun _ h => by exact h.drop 3) rfl ?_)
      (refine GE.q2 2 rfl (by kernel_rfl) rfl (qg_runs (rv_loadW 2 rfl rfl rfl)) (fun _ h => by exact h.drop 3) rfl ?_)
      (refine GE.q2 3 rfl (by kernel_rfl) rfl (qg_runs (rv_loadW 1 rfl rfl rfl)) (fun _ h => by exact h.drop 3) rfl ?_)
      (refine GE.ol0 4 (by kernel_rfl) rfl rfl (og_st2 rfl rfl rfl rfl rfl rfl (.zero (.cons (.cons (.cons (.cons .nil)))))) (fun _ _ h => by exact h.drop 3) (fun _ _ => ?_))
      (refine GE.ol0 5 (by kernel_rfl) rfl rfl (og_st1 rfl rfl rfl rfl rfl rfl (.zero (.cons (.cons (.cons (.cons .nil)))))) (fun _ _ h => by exact h.drop 3) (fun _ _ => ?_))
      (refine GE.ol0 6 (by kernel_rfl) rfl rfl (og_st0 rfl rfl rfl rfl rfl rfl (.zero (.cons (.cons (.cons (.cons .nil)))))) (fun _ _ h => by exact h.drop 3) (fun _ _ => ?_))
      (refine GE.t0 7 (by kernel_rfl) rfl rfl rfl (og_st8 rfl rfl rfl rfl rfl rfl (.zero (.cons (.cons (.cons (.cons .nil)))))) (fun _ _ => ?_))
      refine GE.done (by kernel_rfl) ?_
      refine G.thenN ?_
      refine G.ret ?_
      exact G.retL (⟨_, _, _, _⟩, ⟨_, _, _, _⟩, ⟨_, _, _, _⟩, ⟨_, _, _, _⟩) trivial rfl (.cons (by exact .cell 2 rfl rfl rfl) (.cons (by exact .cell 1 rfl rfl rfl) (.cons (by exact .cell 0 rfl rfl rfl) (.cons (by exact .cell 8 rfl rfl rfl) .nil)))) rfl (fun w hh => hh.none)
  · try exact Bool.noConfusion hc
    all_goals
     try replace hc := of_decide_eq_false hc
     try (exfalso; contradiction)
     all_goals
      refine G.skip ?_
      refine G.thenN ?_
      refine G.seq ?_
      refine G.frontB8 bk2 rfl ?_
      refine G.frontB8 bk3 rfl ?_
      refine G.frontB8 bk4 rfl ?_
      refine G.drawD3 [7] rfl ?_
      (refine GE.q2 0 rfl (by kernel_rfl) rfl (qg_runs (rv_loadW 4 rfl rfl rfl)) (fun _ h => by exact h.drop 3) rfl ?_)
      (refine GE.q2 1 rfl (by kernel_rfl) rfl (qg_runs (rv_loadW 3 rfl rfl rfl)) (fun _ h => by exact h.drop 3) rfl ?_)
      (refine GE.q2 2 rfl (by kernel_rfl) rfl (qg_runs (rv_loadW 2 rfl rfl rfl)) (fun _ h => by exact h.drop 3) rfl ?_)
      (refine GE.q2 3 rfl (by kernel_rfl) rfl (qg_runs (rv_loadW 1 rfl rfl rfl)) (fun _ h => by exact h.drop 3) rfl ?_)
      (refine GE.ol0 4 (by kernel_rfl) rfl rfl (og_st2 rfl rfl rfl rfl rfl rfl (.zero (.cons (.cons (.cons (.cons .nil)))))) (fun _ _ h => by exact h.drop 3) (fun _ _ => ?_))
      (refine GE.ol0 5 (by kernel_rfl) rfl rfl (og_st1 rfl rfl rfl rfl rfl rfl (.zero (.cons (.cons (.cons (.cons .nil)))))) (fun _ _ h => by exact h.drop 3) (fun _ _ => ?_))
      (refine GE.ol0 6 (by kernel_rfl) rfl rfl (og_st0 rfl rfl rfl rfl rfl rfl (.zero (.cons (.cons (.cons (.cons .nil)))))) (fun _ _ h => by exact h.drop 3) (fun _ _ => ?_))
      (refine GE.t0 7 (by kernel_rfl) rfl rfl rfl (og_st8 rfl rfl rfl rfl rfl rfl (.zero (.cons (.cons (.cons (.cons .nil)))))) (fun _ _ => ?_))
      refine GE.done (by kernel_rfl) ?_
      refine G.thenN ?_
      refine G.ret ?_
      exact G.retL (⟨_, _, _, _⟩, ⟨_, _, _, _⟩, ⟨_, _, _, _⟩, ⟨_, _, _, _⟩) trivial rfl (.cons (by exact .cell 2 rfl rfl rfl) (.cons (by exact .cell 1 rfl rfl rfl) (.cons (by exact .cell 0 rfl rfl rfl) (.cons (by exact .cell 8 rfl rfl rfl) .nil)))) rfl (fun w hh => hh.none)
theorem big_any {v : Value} {l : List Int} (w : World) (h : Rd w v 1 (l.map bcell)) : FnV Try.prog 16 [v] w (.bool (decide (((l.map bcell).length : Int) > 1048576))) := by
  refine FnV.of (n := 6) Try.func16 rfl rfl ?_
  refine G.seq ?_
  refine G.region ?_
  refine G.v (rv_assign rfl) rfl ?_
  refine G.done ?_
  refine G.thenN ?_
  refine G.seq ?_
  refine G.region ?_
  refine G.v (rv_move rfl) rfl ?_
  refine G.v (rv_len rfl (by exact Rd.stays (by assumption))) rfl ?_
  refine G.v (rv_gtr rfl rfl) rfl ?_
  refine G.v (rv_assign rfl) rfl ?_
  refine G.done ?_
  refine G.thenN ?_
  refine G.ret ?_
  exact G.retFV rfl rfl rfl
end Go.Proofs.Yticgeijklhlonaa
