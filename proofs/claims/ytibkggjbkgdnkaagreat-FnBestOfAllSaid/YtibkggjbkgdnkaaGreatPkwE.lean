/-
  Texts of this proof, one behind the other: Draws, DrawR, DrawX, DrawG, DrawC, DrawS, PackLaw.
-/
import Derived.Test.YtibkggjbkgdnkaaGreatPkwA
import Derived.Test.YtibkggjbkgdnkaaGreatPkwC
import Derived.Test.YtibkggjbkgdnkaaGreatPkwD
set_option linter.unusedVariables false
set_option linter.unusedSimpArgs false

/-
  What the draws hand out: numbers in bounds, a cursor that is moved.
-/
namespace Go.Proofs.YtibkggjbkgdnkaaGreat
open Go.RowKit
attribute [local irreducible] Go.wpList Go.Code.wp Go.Exit.then Go.Exit.inBlock Go.bodyPost Go.Calls pE pB G RunsV FnV Fn FnM
set_option maxRecDepth 100000
set_option maxHeartbeats 4000000

def bcell (z : Int) : List Value := [.int .u8 z]
theorem l1New_any {v : Value} {l : List Int} (w : World) (h : Rd w v 1 (l.map bcell)) : Fn Tryz.prog 134 [v] w (fun _ : Nat × Int => True) (fun x => pB x.1 0) (fun x => [.blk x.1 184 [v, .int .i64 (0 : Nat), .int .i64 x.2]]) := by
  have hle := h.le_map
  have hln : (l.map bcell).length = l.length := by simp
  have hone := h.one_
  refine Fn.of (n := 32) Tryz.func134 rfl rfl ?_; refine G.seq (G.region (G.v (rv_assign rfl) rfl (G.done (G.thenN (G.seq (G.region (G.v (rv_move rfl) rfl ?_))))))); refine G.v (rv_len rfl (by first | exact Rd.stays (by assumption))) rfl ?_
  (first | refine G.v (rv_incr rfl rfl (by omega)) rfl ?_ | refine G.v (rv_addB rfl rfl (by omega) (by omega)) rfl ?_ | refine G.v (rv_add rfl rfl) rfl ?_)
  refine G.v (rv_assign rfl) rfl (G.done (G.thenN (G.seq (G.seq (G.region (G.v (rv_assign rfl) rfl (G.done (G.thenN (G.block ?_)))))))))
  -- loop 0: turned [3, 4], kept [0]
  refine G.loopK (ι := Nat × Int) (ks := [0]) (fun x => [(3, .int .i64 x.2), (4, .int .i64 x.1)]) (fun _ => []) (fun x => x.1 ≤ l.length) (fun x => l.length - x.1) (0, IntKind.i64.wrap (26583 + ((l.map bcell).length : Int))) (.cons rfl (.nil)) rfl ?_ ?_ ?_
  · exact Nat.zero_le _
  · exact ⟨rfl, rfl, trivial⟩
  rintro ⟨k, z⟩ hk
  by_cases hlt : k < l.length
  case' pos => (obtain ⟨b, hb⟩ := get_of_lt hlt; have he := get_map hb bcell)
  all_goals
   refine G.seq (G.seq (G.region (G.v (rv_move rfl) rfl (G.v (rv_move rfl) rfl ?_)))); refine G.v (rv_len rfl (by first | exact Rd.stays (by assumption))) rfl ?_; refine G.v (rv_lss rfl rfl) rfl (G.v (rv_move rfl) rfl ?_)
   all_goals (((with_reducible refine G.gP rfl rfl (fun hg => ?_) (fun hg => ?_)) <;> (try exact Bool.noConfusion hg) <;> (first | (refine G.gY rfl rfl ?_; refine G.v (rv_move rfl) rfl ?_) | refine G.gN rfl rfl rfl ?_ | refine G.gU rfl rfl rfl ?_)))
   all_goals ((first | (refine G.gY rfl rfl ?_; refine G.v (rv_lss rfl rfl) rfl ?_) | refine G.gN rfl rfl rfl ?_ | refine G.gU rfl rfl rfl ?_))
   all_goals ((first | refine G.v (rv_pickT rfl rfl) rfl ?_ | refine G.v (rv_pickF rfl rfl) rfl ?_))
   all_goals
    refine G.done (G.thenN ?_); refine G.cond rfl (fun hc => ?_) (fun hc => ?_)
    · try exact Bool.noConfusion hc
      all_goals
       try replace hc := of_decide_eq_true hc
       try (exfalso; have hq := of_decide_eq_true hg; simp only [List.length_map] at hq; omega)
       try (exfalso; first | contradiction | omega)
       all_goals
        refine G.skip (G.thenN (G.seq (G.block (G.region (G.v (rv_move rfl) rfl ?_))))); refine G.v (rv_mul rfl rfl) rfl ?_; refine G.v (rv_move rfl) rfl (G.v (rv_move rfl) rfl ?_)
        (first | refine G.v (rv_indexH rfl rfl (by first | exact Rd.stays (by assumption)) rfl (by assumption)) rfl ?_ | refine G.v (rv_index rfl rfl (by first | exact Rd.stays (by assumption)) rfl (by assumption)) rfl ?_)
        refine G.v (rv_loadE rfl (by first | exact Rd.stays (by assumption)) (by assumption) rfl) rfl ?_; refine G.v (rv_conv rfl) rfl ?_
        (first | refine G.v (rv_incr rfl rfl (by omega)) rfl ?_ | refine G.v (rv_addB rfl rfl (by omega) (by omega)) rfl ?_ | refine G.v (rv_add rfl rfl) rfl ?_)
        (first | refine G.v (rv_incr rfl rfl (by omega)) rfl ?_ | refine G.v (rv_addB rfl rfl (by omega) (by omega)) rfl ?_ | refine G.v (rv_add rfl rfl) rfl ?_)
        refine G.v (rv_and rfl rfl) rfl ?_; refine G.v (rv_assign rfl) rfl (G.done (G.inN (G.thenN (G.region (G.v (rv_move rfl) rfl ?_)))))
        (first | refine G.v (rv_incr rfl rfl (by omega)) rfl ?_ | refine G.v (rv_addB rfl rfl (by omega) (by omega)) rfl ?_ | refine G.v (rv_add rfl rfl) rfl ?_)
        refine G.v (rv_assign rfl) rfl (G.done ?_)
        first | refine G.backK (k + 1, bits .and .i64 (IntKind.i64.wrap (IntKind.i64.wrap (IntKind.i64.wrap (z * 131) + IntKind.i64.wrap b) + 7)) 1073741823) 0 rfl (.cons rfl (.nil)) ?_ ?_ ?_
        · exact ⟨rfl, rfl, trivial⟩
        · exact hlt
        · omega
    · try exact Bool.noConfusion hc
      all_goals
       try replace hc := of_decide_eq_false hc
       try (exfalso; have hq := of_decide_eq_true hg; simp only [List.length_map] at hq; omega)
       try (exfalso; first | contradiction | omega)
       all_goals
        refine G.exit (G.thenX (G.thenX (G.inX (G.thenN (G.seq (G.region (G.v (rv_move rfl) rfl (G.v (rv_move rfl) rfl ?_)))))))); refine G.v (rv_build2 rfl (.cons (cells_one (by first | rfl | assumption)) (.cons rfl .nil)) (.cons rfl rfl (.zero (.cons .nil)) (.cons rfl rfl (.succ (.succ (.zero (.cons .nil)))) .nil))) rfl ?_; refine G.op (og_box rfl rfl) rfl (fun bk31 _ => ?_); refine G.v (rv_assign rfl) rfl (G.done (G.thenN (G.ret ?_)))
        exact G.retF (bk31, _) trivial rfl rfl rfl (fun w hw => hw)
theorem l1Byte_any {w0 : World} {v : Value} {l : List Int} {cb i : Nat} {h : Int} (hv : Rd w0 v 1 (l.map bcell)) (hi : i ≤ l.length) :
    FnM Tryz.prog 189 [pB cb 0] w0 [.blk cb 184 [v, .int .i64 i, .int .i64 h]] (fun x : Int × Nat × Int => (0 ≤ x.1 ∧ x.1 ≤ 255) ∧ x.2.1 ≤ l.length) (fun x => .int .i64 x.1) (fun x => [.blk cb 184 [v, .int .i64 x.2.1, .int .i64 x.2.2]]) := by
  have hle := hv.le_map
  have hone := hv.one_
  refine FnM.of (n := 58) Tryz.func189 rfl rfl (fun F => ?_); refine G.seq (G.region (G.v (rv_assign rfl) rfl (G.done (G.thenN (G.seq (G.region (G.v (rv_move rfl) rfl (G.v (rv_move rfl) rfl ?_))))))))
  (first | refine G.v (rv_nilCheckB rfl) rfl ?_ | refine G.v (rv_nilCheckE rfl) rfl ?_)
  (first | refine G.v (rv_field rfl) rfl ?_ | refine G.v (rv_fieldE rfl) rfl ?_)
  (first | refine G.v (rv_load1 0 rfl rfl rfl) rfl ?_ | refine G.v (rv_loadE rfl (by first | exact Rd.stays (by assumption) | exact Rd.owned 0 rfl) (by assumption) rfl) rfl ?_)
  refine G.v (rv_mul rfl rfl) rfl ?_
  (first | refine G.v (rv_incr rfl rfl (by omega)) rfl ?_ | refine G.v (rv_addB rfl rfl (by omega) (by omega)) rfl ?_ | refine G.v (rv_add rfl rfl) rfl ?_)
  (first | refine G.v (rv_nilCheckB rfl) rfl ?_ | refine G.v (rv_nilCheckE rfl) rfl ?_)
  (first | refine G.v (rv_field rfl) rfl ?_ | refine G.v (rv_fieldE rfl) rfl ?_)
  (first | refine G.op0 (og_st0 rfl rfl rfl rfl rfl rfl (.succ (.succ (.zero (.cons .nil))))) (fun _ _ => ?_) | refine G.op0 (og_stE0 rfl rfl rfl (by assumption) rfl rfl rfl rfl (.succ (.succ (.zero (.cons .nil))))) (fun _ _ => ?_))
  refine G.done (G.thenN (G.seq ?_)); refine G.drawL [12] ?_; refine GE.q 0 rfl (by as_aux_lemma => kernel_rfl) rfl (qg_runs (rv_move rfl)) rfl ?_
  (first | refine GE.q 1 rfl (by as_aux_lemma => kernel_rfl) rfl (qg_runs (rv_nilCheckB rfl)) rfl ?_ | refine GE.q 1 rfl (by as_aux_lemma => kernel_rfl) rfl (qg_runs (rv_nilCheckE rfl)) rfl ?_)
  (first | refine GE.q 2 rfl (by as_aux_lemma => kernel_rfl) rfl (qg_runs (rv_field rfl)) rfl ?_ | refine GE.q 2 rfl (by as_aux_lemma => kernel_rfl) rfl (qg_runs (rv_fieldE rfl)) rfl ?_)
  (first | refine GE.q 3 rfl (by as_aux_lemma => kernel_rfl) rfl (qg_runs (rv_load1 0 rfl rfl rfl)) rfl ?_ | refine GE.q 3 rfl (by as_aux_lemma => kernel_rfl) rfl (qg_runs (rv_loadE rfl (by first | exact Rd.stays (by assumption) | exact Rd.owned 0 rfl) (by assumption) rfl)) rfl ?_)
  refine GE.q 4 rfl (by as_aux_lemma => kernel_rfl) rfl (qg_runs (rv_shr rfl rfl (by omega))) rfl ?_; refine GE.ol 5 (by as_aux_lemma => kernel_rfl) rfl rfl (og_runs (rv_move rfl)) rfl (fun _ _ h => by first | exact h | exact h.drop 1 | exact h.drop 2 | exact h.drop 3 | exact h.drop 4 | exact h.drop 5 | exact h.drop 6 | exact h.drop 7 | exact h.drop 8 | exact h.drop 9 | exact h.drop 10 | exact h.drop 11 | exact h.drop 12 | exact h.drop 13) (fun _ _ => ?_)
  (first | refine GE.ol 6 (by as_aux_lemma => kernel_rfl) rfl rfl (og_runs (rv_nilCheckB rfl)) rfl (fun _ _ h => by first | exact h | exact h.drop 1 | exact h.drop 2 | exact h.drop 3 | exact h.drop 4 | exact h.drop 5 | exact h.drop 6 | exact h.drop 7 | exact h.drop 8 | exact h.drop 9 | exact h.drop 10 | exact h.drop 11 | exact h.drop 12 | exact h.drop 13) (fun _ _ => ?_) | refine GE.ol 6 (by as_aux_lemma => kernel_rfl) rfl rfl (og_runs (rv_nilCheckE rfl)) rfl (fun _ _ h => by first | exact h | exact h.drop 1 | exact h.drop 2 | exact h.drop 3 | exact h.drop 4 | exact h.drop 5 | exact h.drop 6 | exact h.drop 7 | exact h.drop 8 | exact h.drop 9 | exact h.drop 10 | exact h.drop 11 | exact h.drop 12 | exact h.drop 13) (fun _ _ => ?_))
  (first | refine GE.ol 7 (by as_aux_lemma => kernel_rfl) rfl rfl (og_runs (rv_field rfl)) rfl (fun _ _ h => by first | exact h | exact h.drop 1 | exact h.drop 2 | exact h.drop 3 | exact h.drop 4 | exact h.drop 5 | exact h.drop 6 | exact h.drop 7 | exact h.drop 8 | exact h.drop 9 | exact h.drop 10 | exact h.drop 11 | exact h.drop 12 | exact h.drop 13) (fun _ _ => ?_) | refine GE.ol 7 (by as_aux_lemma => kernel_rfl) rfl rfl (og_runs (rv_fieldE rfl)) rfl (fun _ _ h => by first | exact h | exact h.drop 1 | exact h.drop 2 | exact h.drop 3 | exact h.drop 4 | exact h.drop 5 | exact h.drop 6 | exact h.drop 7 | exact h.drop 8 | exact h.drop 9 | exact h.drop 10 | exact h.drop 11 | exact h.drop 12 | exact h.drop 13) (fun _ _ => ?_))
  (first | refine GE.ol 8 (by as_aux_lemma => kernel_rfl) rfl rfl (og_runs (rv_load1 0 rfl rfl rfl)) rfl (fun _ _ h => by first | exact h | exact h.drop 1 | exact h.drop 2 | exact h.drop 3 | exact h.drop 4 | exact h.drop 5 | exact h.drop 6 | exact h.drop 7 | exact h.drop 8 | exact h.drop 9 | exact h.drop 10 | exact h.drop 11 | exact h.drop 12 | exact h.drop 13) (fun _ _ => ?_) | refine GE.ol 8 (by as_aux_lemma => kernel_rfl) rfl rfl (og_runs (rv_loadE rfl (by first | exact Rd.stays (by assumption) | exact Rd.owned 0 rfl) (by assumption) rfl)) rfl (fun _ _ h => by first | exact h | exact h.drop 1 | exact h.drop 2 | exact h.drop 3 | exact h.drop 4 | exact h.drop 5 | exact h.drop 6 | exact h.drop 7 | exact h.drop 8 | exact h.drop 9 | exact h.drop 10 | exact h.drop 11 | exact h.drop 12 | exact h.drop 13) (fun _ _ => ?_))
  refine GE.ol 9 (by as_aux_lemma => kernel_rfl) rfl rfl (og_runs (rv_shr rfl rfl (by omega))) rfl (fun _ _ h => by first | exact h | exact h.drop 1 | exact h.drop 2 | exact h.drop 3 | exact h.drop 4 | exact h.drop 5 | exact h.drop 6 | exact h.drop 7 | exact h.drop 8 | exact h.drop 9 | exact h.drop 10 | exact h.drop 11 | exact h.drop 12 | exact h.drop 13) (fun _ _ => ?_); refine GE.ol 10 (by as_aux_lemma => kernel_rfl) rfl rfl (og_runs (rv_xor rfl rfl)) rfl (fun _ _ h => by first | exact h | exact h.drop 1 | exact h.drop 2 | exact h.drop 3 | exact h.drop 4 | exact h.drop 5 | exact h.drop 6 | exact h.drop 7 | exact h.drop 8 | exact h.drop 9 | exact h.drop 10 | exact h.drop 11 | exact h.drop 12 | exact h.drop 13) (fun _ _ => ?_); refine GE.ol 11 (by as_aux_lemma => kernel_rfl) rfl rfl (og_runs (rv_and rfl rfl)) rfl (fun _ _ h => by first | exact h | exact h.drop 1 | exact h.drop 2 | exact h.drop 3 | exact h.drop 4 | exact h.drop 5 | exact h.drop 6 | exact h.drop 7 | exact h.drop 8 | exact h.drop 9 | exact h.drop 10 | exact h.drop 11 | exact h.drop 12 | exact h.drop 13) (fun _ _ => ?_); refine GE.t 12 (by as_aux_lemma => kernel_rfl) rfl rfl rfl (og_runs (rv_assign rfl)) rfl (fun _ _ => ?_); refine GE.done (by as_aux_lemma => kernel_rfl) ?_; refine G.thenN (G.seq (G.seq ?_)); refine G.drawL [] ?_; refine GE.q 0 rfl (by as_aux_lemma => kernel_rfl) rfl (qg_runs (rv_move rfl)) rfl ?_
  (first | refine GE.q 1 rfl (by as_aux_lemma => kernel_rfl) rfl (qg_runs (rv_nilCheckB rfl)) rfl ?_ | refine GE.q 1 rfl (by as_aux_lemma => kernel_rfl) rfl (qg_runs (rv_nilCheckE rfl)) rfl ?_)
  (first | refine GE.q 2 rfl (by as_aux_lemma => kernel_rfl) rfl (qg_runs (rv_field rfl)) rfl ?_ | refine GE.q 2 rfl (by as_aux_lemma => kernel_rfl) rfl (qg_runs (rv_fieldE rfl)) rfl ?_)
  (first | refine GE.q 3 rfl (by as_aux_lemma => kernel_rfl) rfl (qg_runs (rv_load1 0 rfl rfl rfl)) rfl ?_ | refine GE.q 3 rfl (by as_aux_lemma => kernel_rfl) rfl (qg_runs (rv_loadE rfl (by first | exact Rd.stays (by assumption) | exact Rd.owned 0 rfl) (by assumption) rfl)) rfl ?_)
  refine GE.ol 4 (by as_aux_lemma => kernel_rfl) rfl rfl (og_runs (rv_move rfl)) rfl (fun _ _ h => by first | exact h | exact h.drop 1 | exact h.drop 2 | exact h.drop 3 | exact h.drop 4 | exact h.drop 5 | exact h.drop 6 | exact h.drop 7 | exact h.drop 8 | exact h.drop 9 | exact h.drop 10 | exact h.drop 11 | exact h.drop 12 | exact h.drop 13) (fun _ _ => ?_)
  (first | refine GE.ol 5 (by as_aux_lemma => kernel_rfl) rfl rfl (og_runs (rv_nilCheckB rfl)) rfl (fun _ _ h => by first | exact h | exact h.drop 1 | exact h.drop 2 | exact h.drop 3 | exact h.drop 4 | exact h.drop 5 | exact h.drop 6 | exact h.drop 7 | exact h.drop 8 | exact h.drop 9 | exact h.drop 10 | exact h.drop 11 | exact h.drop 12 | exact h.drop 13) (fun _ _ => ?_) | refine GE.ol 5 (by as_aux_lemma => kernel_rfl) rfl rfl (og_runs (rv_nilCheckE rfl)) rfl (fun _ _ h => by first | exact h | exact h.drop 1 | exact h.drop 2 | exact h.drop 3 | exact h.drop 4 | exact h.drop 5 | exact h.drop 6 | exact h.drop 7 | exact h.drop 8 | exact h.drop 9 | exact h.drop 10 | exact h.drop 11 | exact h.drop 12 | exact h.drop 13) (fun _ _ => ?_))
  (first | refine GE.ol 6 (by as_aux_lemma => kernel_rfl) rfl rfl (og_runs (rv_field rfl)) rfl (fun _ _ h => by first | exact h | exact h.drop 1 | exact h.drop 2 | exact h.drop 3 | exact h.drop 4 | exact h.drop 5 | exact h.drop 6 | exact h.drop 7 | exact h.drop 8 | exact h.drop 9 | exact h.drop 10 | exact h.drop 11 | exact h.drop 12 | exact h.drop 13) (fun _ _ => ?_) | refine GE.ol 6 (by as_aux_lemma => kernel_rfl) rfl rfl (og_runs (rv_fieldE rfl)) rfl (fun _ _ h => by first | exact h | exact h.drop 1 | exact h.drop 2 | exact h.drop 3 | exact h.drop 4 | exact h.drop 5 | exact h.drop 6 | exact h.drop 7 | exact h.drop 8 | exact h.drop 9 | exact h.drop 10 | exact h.drop 11 | exact h.drop 12 | exact h.drop 13) (fun _ _ => ?_))
  (first | refine GE.ol 7 (by as_aux_lemma => kernel_rfl) rfl rfl (og_runs (rv_load1 0 rfl rfl rfl)) rfl (fun _ _ h => by first | exact h | exact h.drop 1 | exact h.drop 2 | exact h.drop 3 | exact h.drop 4 | exact h.drop 5 | exact h.drop 6 | exact h.drop 7 | exact h.drop 8 | exact h.drop 9 | exact h.drop 10 | exact h.drop 11 | exact h.drop 12 | exact h.drop 13) (fun _ _ => ?_) | refine GE.ol 7 (by as_aux_lemma => kernel_rfl) rfl rfl (og_runs (rv_loadE rfl (by first | exact Rd.stays (by assumption) | exact Rd.owned 0 rfl) (by assumption) rfl)) rfl (fun _ _ h => by first | exact h | exact h.drop 1 | exact h.drop 2 | exact h.drop 3 | exact h.drop 4 | exact h.drop 5 | exact h.drop 6 | exact h.drop 7 | exact h.drop 8 | exact h.drop 9 | exact h.drop 10 | exact h.drop 11 | exact h.drop 12 | exact h.drop 13) (fun _ _ => ?_))
  refine GE.ol 8 (by as_aux_lemma => kernel_rfl) rfl rfl (og_runs (rv_len rfl (by first | exact Rd.stays (by assumption) | exact Rd.owned 0 rfl))) rfl (fun _ _ h => by first | exact h | exact h.drop 1 | exact h.drop 2 | exact h.drop 3 | exact h.drop 4 | exact h.drop 5 | exact h.drop 6 | exact h.drop 7 | exact h.drop 8 | exact h.drop 9 | exact h.drop 10 | exact h.drop 11 | exact h.drop 12 | exact h.drop 13) (fun _ _ => ?_); refine GE.ol 9 (by as_aux_lemma => kernel_rfl) rfl rfl (og_runs (rv_lss rfl rfl)) rfl (fun _ _ h => by first | exact h | exact h.drop 1 | exact h.drop 2 | exact h.drop 3 | exact h.drop 4 | exact h.drop 5 | exact h.drop 6 | exact h.drop 7 | exact h.drop 8 | exact h.drop 9 | exact h.drop 10 | exact h.drop 11 | exact h.drop 12 | exact h.drop 13) (fun _ _ => ?_); refine GE.done (by as_aux_lemma => kernel_rfl) ?_; refine G.thenN ?_; refine G.cond rfl (fun hc => ?_) (fun hc => ?_)
  · try exact Bool.noConfusion hc
    all_goals
     try replace hc := of_decide_eq_true hc
     try (rcases Nat.lt_or_ge i l.length with h8 | h8; rotate_left; (exfalso; simp only [List.length_map] at hc; omega); obtain ⟨b, hb⟩ := get_of_lt h8; have he := get_map hb bcell; have hi2 := get_lt hb)
     try (exfalso; first | contradiction | omega)
     all_goals
      refine G.seq ?_; refine G.drawL [14] ?_; refine GE.q 0 rfl (by as_aux_lemma => kernel_rfl) rfl (qg_runs (rv_move rfl)) rfl ?_; refine GE.q 1 rfl (by as_aux_lemma => kernel_rfl) rfl (qg_runs (rv_move rfl)) rfl ?_
      (first | refine GE.q 2 rfl (by as_aux_lemma => kernel_rfl) rfl (qg_runs (rv_nilCheckB rfl)) rfl ?_ | refine GE.q 2 rfl (by as_aux_lemma => kernel_rfl) rfl (qg_runs (rv_nilCheckE rfl)) rfl ?_)
      (first | refine GE.q 3 rfl (by as_aux_lemma => kernel_rfl) rfl (qg_runs (rv_field rfl)) rfl ?_ | refine GE.q 3 rfl (by as_aux_lemma => kernel_rfl) rfl (qg_runs (rv_fieldE rfl)) rfl ?_)
      (first | refine GE.q 4 rfl (by as_aux_lemma => kernel_rfl) rfl (qg_runs (rv_load1 0 rfl rfl rfl)) rfl ?_ | refine GE.q 4 rfl (by as_aux_lemma => kernel_rfl) rfl (qg_runs (rv_loadE rfl (by first | exact Rd.stays (by assumption) | exact Rd.owned 0 rfl) (by assumption) rfl)) rfl ?_)
      refine GE.ol 5 (by as_aux_lemma => kernel_rfl) rfl rfl (og_runs (rv_move rfl)) rfl (fun _ _ h => by first | exact h | exact h.drop 1 | exact h.drop 2 | exact h.drop 3 | exact h.drop 4 | exact h.drop 5 | exact h.drop 6 | exact h.drop 7 | exact h.drop 8 | exact h.drop 9 | exact h.drop 10 | exact h.drop 11 | exact h.drop 12 | exact h.drop 13) (fun _ _ => ?_)
      (first | refine GE.ol 6 (by as_aux_lemma => kernel_rfl) rfl rfl (og_runs (rv_nilCheckB rfl)) rfl (fun _ _ h => by first | exact h | exact h.drop 1 | exact h.drop 2 | exact h.drop 3 | exact h.drop 4 | exact h.drop 5 | exact h.drop 6 | exact h.drop 7 | exact h.drop 8 | exact h.drop 9 | exact h.drop 10 | exact h.drop 11 | exact h.drop 12 | exact h.drop 13) (fun _ _ => ?_) | refine GE.ol 6 (by as_aux_lemma => kernel_rfl) rfl rfl (og_runs (rv_nilCheckE rfl)) rfl (fun _ _ h => by first | exact h | exact h.drop 1 | exact h.drop 2 | exact h.drop 3 | exact h.drop 4 | exact h.drop 5 | exact h.drop 6 | exact h.drop 7 | exact h.drop 8 | exact h.drop 9 | exact h.drop 10 | exact h.drop 11 | exact h.drop 12 | exact h.drop 13) (fun _ _ => ?_))
      (first | refine GE.ol 7 (by as_aux_lemma => kernel_rfl) rfl rfl (og_runs (rv_field rfl)) rfl (fun _ _ h => by first | exact h | exact h.drop 1 | exact h.drop 2 | exact h.drop 3 | exact h.drop 4 | exact h.drop 5 | exact h.drop 6 | exact h.drop 7 | exact h.drop 8 | exact h.drop 9 | exact h.drop 10 | exact h.drop 11 | exact h.drop 12 | exact h.drop 13) (fun _ _ => ?_) | refine GE.ol 7 (by as_aux_lemma => kernel_rfl) rfl rfl (og_runs (rv_fieldE rfl)) rfl (fun _ _ h => by first | exact h | exact h.drop 1 | exact h.drop 2 | exact h.drop 3 | exact h.drop 4 | exact h.drop 5 | exact h.drop 6 | exact h.drop 7 | exact h.drop 8 | exact h.drop 9 | exact h.drop 10 | exact h.drop 11 | exact h.drop 12 | exact h.drop 13) (fun _ _ => ?_))
      (first | refine GE.ol 8 (by as_aux_lemma => kernel_rfl) rfl rfl (og_runs (rv_load1 0 rfl rfl rfl)) rfl (fun _ _ h => by first | exact h | exact h.drop 1 | exact h.drop 2 | exact h.drop 3 | exact h.drop 4 | exact h.drop 5 | exact h.drop 6 | exact h.drop 7 | exact h.drop 8 | exact h.drop 9 | exact h.drop 10 | exact h.drop 11 | exact h.drop 12 | exact h.drop 13) (fun _ _ => ?_) | refine GE.ol 8 (by as_aux_lemma => kernel_rfl) rfl rfl (og_runs (rv_loadE rfl (by first | exact Rd.stays (by assumption) | exact Rd.owned 0 rfl) (by assumption) rfl)) rfl (fun _ _ h => by first | exact h | exact h.drop 1 | exact h.drop 2 | exact h.drop 3 | exact h.drop 4 | exact h.drop 5 | exact h.drop 6 | exact h.drop 7 | exact h.drop 8 | exact h.drop 9 | exact h.drop 10 | exact h.drop 11 | exact h.drop 12 | exact h.drop 13) (fun _ _ => ?_))
      (first | refine GE.ol 9 (by as_aux_lemma => kernel_rfl) rfl rfl (og_runs (rv_indexH rfl rfl (by first | exact Rd.stays (by assumption) | exact Rd.owned 0 rfl) rfl (by assumption))) rfl (fun _ _ h => by first | exact h | exact h.drop 1 | exact h.drop 2 | exact h.drop 3 | exact h.drop 4 | exact h.drop 5 | exact h.drop 6 | exact h.drop 7 | exact h.drop 8 | exact h.drop 9 | exact h.drop 10 | exact h.drop 11 | exact h.drop 12 | exact h.drop 13) (fun _ _ => ?_) | refine GE.ol 9 (by as_aux_lemma => kernel_rfl) rfl rfl (og_runs (rv_index rfl rfl (by first | exact Rd.stays (by assumption) | exact Rd.owned 0 rfl) rfl (by assumption))) rfl (fun _ _ h => by first | exact h | exact h.drop 1 | exact h.drop 2 | exact h.drop 3 | exact h.drop 4 | exact h.drop 5 | exact h.drop 6 | exact h.drop 7 | exact h.drop 8 | exact h.drop 9 | exact h.drop 10 | exact h.drop 11 | exact h.drop 12 | exact h.drop 13) (fun _ _ => ?_))
      refine GE.ol 10 (by as_aux_lemma => kernel_rfl) rfl rfl (og_runs (rv_loadE rfl (by first | exact Rd.stays (by assumption) | exact Rd.owned 0 rfl) (by assumption) rfl)) rfl (fun _ _ h => by first | exact h | exact h.drop 1 | exact h.drop 2 | exact h.drop 3 | exact h.drop 4 | exact h.drop 5 | exact h.drop 6 | exact h.drop 7 | exact h.drop 8 | exact h.drop 9 | exact h.drop 10 | exact h.drop 11 | exact h.drop 12 | exact h.drop 13) (fun _ _ => ?_); refine GE.ol 11 (by as_aux_lemma => kernel_rfl) rfl rfl (og_runs (rv_conv rfl)) rfl (fun _ _ h => by first | exact h | exact h.drop 1 | exact h.drop 2 | exact h.drop 3 | exact h.drop 4 | exact h.drop 5 | exact h.drop 6 | exact h.drop 7 | exact h.drop 8 | exact h.drop 9 | exact h.drop 10 | exact h.drop 11 | exact h.drop 12 | exact h.drop 13) (fun _ _ => ?_)
      (first | refine GE.ol 12 (by as_aux_lemma => kernel_rfl) rfl rfl (og_runs (rv_incr rfl rfl (by omega))) rfl (fun _ _ h => by first | exact h | exact h.drop 1 | exact h.drop 2 | exact h.drop 3 | exact h.drop 4 | exact h.drop 5 | exact h.drop 6 | exact h.drop 7 | exact h.drop 8 | exact h.drop 9 | exact h.drop 10 | exact h.drop 11 | exact h.drop 12 | exact h.drop 13) (fun _ _ => ?_) | refine GE.ol 12 (by as_aux_lemma => kernel_rfl) rfl rfl (og_runs (rv_addB rfl rfl (by omega) (by omega))) rfl (fun _ _ h => by first | exact h | exact h.drop 1 | exact h.drop 2 | exact h.drop 3 | exact h.drop 4 | exact h.drop 5 | exact h.drop 6 | exact h.drop 7 | exact h.drop 8 | exact h.drop 9 | exact h.drop 10 | exact h.drop 11 | exact h.drop 12 | exact h.drop 13) (fun _ _ => ?_) | refine GE.ol 12 (by as_aux_lemma => kernel_rfl) rfl rfl (og_runs (rv_add rfl rfl)) rfl (fun _ _ h => by first | exact h | exact h.drop 1 | exact h.drop 2 | exact h.drop 3 | exact h.drop 4 | exact h.drop 5 | exact h.drop 6 | exact h.drop 7 | exact h.drop 8 | exact h.drop 9 | exact h.drop 10 | exact h.drop 11 | exact h.drop 12 | exact h.drop 13) (fun _ _ => ?_))
      refine GE.ol 13 (by as_aux_lemma => kernel_rfl) rfl rfl (og_runs (rv_and rfl rfl)) rfl (fun _ _ h => by first | exact h | exact h.drop 1 | exact h.drop 2 | exact h.drop 3 | exact h.drop 4 | exact h.drop 5 | exact h.drop 6 | exact h.drop 7 | exact h.drop 8 | exact h.drop 9 | exact h.drop 10 | exact h.drop 11 | exact h.drop 12 | exact h.drop 13) (fun _ _ => ?_); refine GE.t 14 (by as_aux_lemma => kernel_rfl) rfl rfl rfl (og_runs (rv_assign rfl)) rfl (fun _ _ => ?_); refine GE.done (by as_aux_lemma => kernel_rfl) ?_; refine G.thenN (G.region (G.v (rv_move rfl) rfl (G.v (rv_move rfl) rfl ?_)))
      (first | refine G.v (rv_nilCheckB rfl) rfl ?_ | refine G.v (rv_nilCheckE rfl) rfl ?_)
      (first | refine G.v (rv_field rfl) rfl ?_ | refine G.v (rv_fieldE rfl) rfl ?_)
      (first | refine G.v (rv_load1 0 rfl rfl rfl) rfl ?_ | refine G.v (rv_loadE rfl (by first | exact Rd.stays (by assumption) | exact Rd.owned 0 rfl) (by assumption) rfl) rfl ?_)
      (first | refine G.v (rv_incr rfl rfl (by omega)) rfl ?_ | refine G.v (rv_addB rfl rfl (by omega) (by omega)) rfl ?_ | refine G.v (rv_add rfl rfl) rfl ?_)
      (first | refine G.v (rv_nilCheckB rfl) rfl ?_ | refine G.v (rv_nilCheckE rfl) rfl ?_)
      (first | refine G.v (rv_field rfl) rfl ?_ | refine G.v (rv_fieldE rfl) rfl ?_)
      (first | refine G.op0 (og_st0 rfl rfl rfl rfl rfl rfl (.succ (.zero (.cons .nil)))) (fun _ _ => ?_) | refine G.op0 (og_stE0 rfl rfl rfl (by assumption) rfl rfl rfl rfl (.succ (.zero (.cons .nil)))) (fun _ _ => ?_))
      refine G.done (G.thenN (G.seq (G.region (G.v (rv_move rfl) rfl (G.v (rv_assign rfl) rfl (G.done (G.thenN (G.ret ?_))))))))
      first | exact G.retF (_, i, _) ⟨and255 _, hi⟩ rfl rfl rfl (fun w hw => hw) | exact G.retF (_, i + 1, _) ⟨and255 _, hi2⟩ rfl rfl rfl (fun w hw => hw)
  · try exact Bool.noConfusion hc
    all_goals
     try replace hc := of_decide_eq_false hc
     try (rcases Nat.lt_or_ge i l.length with h8 | h8; rotate_left; (exfalso; simp only [List.length_map] at hc; omega); obtain ⟨b, hb⟩ := get_of_lt h8; have he := get_map hb bcell; have hi2 := get_lt hb)
     try (exfalso; first | contradiction | omega)
     all_goals
      refine G.skip (G.thenN (G.seq (G.region (G.v (rv_move rfl) rfl (G.v (rv_assign rfl) rfl (G.done (G.thenN (G.ret ?_))))))))
      first | exact G.retF (_, i, _) ⟨and255 _, hi⟩ rfl rfl rfl (fun w hw => hw) | exact G.retF (_, i + 1, _) ⟨and255 _, hi2⟩ rfl rfl rfl (fun w hw => hw)
theorem l1Below_any {w0 : World} {v : Value} {l : List Int} {cb i : Nat} {h : Int} (m : Int) (hv : Rd w0 v 1 (l.map bcell)) (hi : i ≤ l.length) :
    FnM Tryz.prog 135 [pB cb 0, .int .i64 m] w0 [.blk cb 184 [v, .int .i64 i, .int .i64 h]] (fun x : Int × Nat × Int => (0 ≤ x.1 ∧ (0 < m → x.1 < m)) ∧ x.2.1 ≤ l.length) (fun x => .int .i64 x.1) (fun x => [.blk cb 184 [v, .int .i64 x.2.1, .int .i64 x.2.2]]) := by
  refine FnM.of (n := 37) Tryz.func135 rfl rfl (fun F => ?_); refine G.seq (G.region (G.v (rv_assign rfl) rfl (G.done (G.thenN (G.seq (G.seq (G.region (G.v (rv_move rfl) rfl (G.v (rv_leq rfl rfl) rfl (G.done (G.thenN ?_))))))))))); refine G.cond rfl (fun hc => ?_) (fun hc => ?_)
  · try exact Bool.noConfusion hc
    all_goals
     try replace hc := of_decide_eq_true hc
     try (exfalso; first | contradiction | omega)
     all_goals
      refine G.seq (G.region (G.v (rv_assign rfl) rfl (G.done (G.thenN (G.ret (G.thenR ?_))))))
      first | exact G.retF (_, _, _) ⟨⟨Int.le_refl 0, fun h0 => absurd h0 (by omega)⟩, hi⟩ rfl rfl rfl (fun w hw => hw) | exact G.retF (_, _, _) ⟨⟨Int.tmod_nonneg _ (by omega), fun _ => Int.tmod_lt_of_pos _ (by omega)⟩, by assumption⟩ rfl rfl rfl (fun w hw => hw)
  · try exact Bool.noConfusion hc
    all_goals
     try replace hc := of_decide_eq_false hc
     try (exfalso; first | contradiction | omega)
     all_goals
      refine G.skip (G.thenN (G.seq (G.seq (G.region (G.v (rv_move rfl) rfl (G.v (rv_leq rfl rfl) rfl (G.done (G.thenN ?_)))))))); refine G.cond rfl (fun hc => ?_) (fun hc => ?_)
      · try exact Bool.noConfusion hc
        all_goals
         try replace hc := of_decide_eq_true hc
         try (exfalso; first | contradiction | omega)
         all_goals
          refine G.seq (G.region (G.v (rv_move rfl) rfl ?_))
          (first | (refine G.op (og_callM0 rfl rfl rfl (l1Byte_any (by assumption) (by assumption)).toF) rfl ?_; rintro ⟨xr, xi, xh⟩ ⟨⟨hx0, hx1⟩, hxi⟩; try dsimp only) | (refine G.op (og_callM1 rfl rfl rfl (l1Byte_any (by assumption) (by assumption)).toF) rfl ?_; rintro ⟨xr, xi, xh⟩ ⟨⟨hx0, hx1⟩, hxi⟩; try dsimp only) | (refine G.op (og_callM2 rfl rfl rfl (l1Byte_any (by assumption) (by assumption)).toF) rfl ?_; rintro ⟨xr, xi, xh⟩ ⟨⟨hx0, hx1⟩, hxi⟩; try dsimp only) | (refine G.op (og_callM3 rfl rfl rfl (l1Byte_any (by assumption) (by assumption)).toF) rfl ?_; rintro ⟨xr, xi, xh⟩ ⟨⟨hx0, hx1⟩, hxi⟩; try dsimp only) | (refine G.op (og_callM4 rfl rfl rfl (l1Byte_any (by assumption) (by assumption)).toF) rfl ?_; rintro ⟨xr, xi, xh⟩ ⟨⟨hx0, hx1⟩, hxi⟩; try dsimp only))
          refine G.v (rv_move rfl) rfl ?_; refine G.v (rv_rem rfl rfl (by omega)) rfl ?_; refine G.v (rv_assign rfl) rfl (G.done (G.thenN (G.ret (G.thenR ?_))))
          first | exact G.retF (_, _, _) ⟨⟨Int.le_refl 0, fun h0 => absurd h0 (by omega)⟩, hi⟩ rfl rfl rfl (fun w hw => hw) | exact G.retF (_, _, _) ⟨⟨Int.tmod_nonneg _ (by omega), fun _ => Int.tmod_lt_of_pos _ (by omega)⟩, by assumption⟩ rfl rfl rfl (fun w hw => hw)
      · try exact Bool.noConfusion hc
        all_goals
         try replace hc := of_decide_eq_false hc
         try (exfalso; first | contradiction | omega)
         all_goals
          refine G.skip (G.thenN (G.seq (G.region (G.v (rv_move rfl) rfl ?_))))
          (first | (refine G.op (og_callM0 rfl rfl rfl (l1Byte_any (by assumption) (by assumption)).toF) rfl ?_; rintro ⟨xr, xi, xh⟩ ⟨⟨hx0, hx1⟩, hxi⟩; try dsimp only) | (refine G.op (og_callM1 rfl rfl rfl (l1Byte_any (by assumption) (by assumption)).toF) rfl ?_; rintro ⟨xr, xi, xh⟩ ⟨⟨hx0, hx1⟩, hxi⟩; try dsimp only) | (refine G.op (og_callM2 rfl rfl rfl (l1Byte_any (by assumption) (by assumption)).toF) rfl ?_; rintro ⟨xr, xi, xh⟩ ⟨⟨hx0, hx1⟩, hxi⟩; try dsimp only) | (refine G.op (og_callM3 rfl rfl rfl (l1Byte_any (by assumption) (by assumption)).toF) rfl ?_; rintro ⟨xr, xi, xh⟩ ⟨⟨hx0, hx1⟩, hxi⟩; try dsimp only) | (refine G.op (og_callM4 rfl rfl rfl (l1Byte_any (by assumption) (by assumption)).toF) rfl ?_; rintro ⟨xr, xi, xh⟩ ⟨⟨hx0, hx1⟩, hxi⟩; try dsimp only))
          refine G.v (rv_assign rfl) rfl (G.done (G.thenN (G.seq (G.region (G.v (rv_move rfl) rfl ?_)))))
          (first | (refine G.op (og_callM0 rfl rfl rfl (l1Byte_any (by assumption) (by assumption)).toF) rfl ?_; rintro ⟨xr, xi, xh⟩ ⟨⟨hx0, hx1⟩, hxi⟩; try dsimp only) | (refine G.op (og_callM1 rfl rfl rfl (l1Byte_any (by assumption) (by assumption)).toF) rfl ?_; rintro ⟨xr, xi, xh⟩ ⟨⟨hx0, hx1⟩, hxi⟩; try dsimp only) | (refine G.op (og_callM2 rfl rfl rfl (l1Byte_any (by assumption) (by assumption)).toF) rfl ?_; rintro ⟨xr, xi, xh⟩ ⟨⟨hx0, hx1⟩, hxi⟩; try dsimp only) | (refine G.op (og_callM3 rfl rfl rfl (l1Byte_any (by assumption) (by assumption)).toF) rfl ?_; rintro ⟨xr, xi, xh⟩ ⟨⟨hx0, hx1⟩, hxi⟩; try dsimp only) | (refine G.op (og_callM4 rfl rfl rfl (l1Byte_any (by assumption) (by assumption)).toF) rfl ?_; rintro ⟨xr, xi, xh⟩ ⟨⟨hx0, hx1⟩, hxi⟩; try dsimp only))
          refine G.v (rv_assign rfl) rfl (G.done (G.thenN (G.seq (G.region (G.v (rv_move rfl) rfl ?_)))))
          (first | (refine G.op (og_callM0 rfl rfl rfl (l1Byte_any (by assumption) (by assumption)).toF) rfl ?_; rintro ⟨xr, xi, xh⟩ ⟨⟨hx0, hx1⟩, hxi⟩; try dsimp only) | (refine G.op (og_callM1 rfl rfl rfl (l1Byte_any (by assumption) (by assumption)).toF) rfl ?_; rintro ⟨xr, xi, xh⟩ ⟨⟨hx0, hx1⟩, hxi⟩; try dsimp only) | (refine G.op (og_callM2 rfl rfl rfl (l1Byte_any (by assumption) (by assumption)).toF) rfl ?_; rintro ⟨xr, xi, xh⟩ ⟨⟨hx0, hx1⟩, hxi⟩; try dsimp only) | (refine G.op (og_callM3 rfl rfl rfl (l1Byte_any (by assumption) (by assumption)).toF) rfl ?_; rintro ⟨xr, xi, xh⟩ ⟨⟨hx0, hx1⟩, hxi⟩; try dsimp only) | (refine G.op (og_callM4 rfl rfl rfl (l1Byte_any (by assumption) (by assumption)).toF) rfl ?_; rintro ⟨xr, xi, xh⟩ ⟨⟨hx0, hx1⟩, hxi⟩; try dsimp only))
          refine G.v (rv_assign rfl) rfl (G.done (G.thenN (G.seq (G.region (G.v (rv_move rfl) rfl ?_)))))
          (first | (refine G.op (og_callM0 rfl rfl rfl (l1Byte_any (by assumption) (by assumption)).toF) rfl ?_; rintro ⟨xr, xi, xh⟩ ⟨⟨hx0, hx1⟩, hxi⟩; try dsimp only) | (refine G.op (og_callM1 rfl rfl rfl (l1Byte_any (by assumption) (by assumption)).toF) rfl ?_; rintro ⟨xr, xi, xh⟩ ⟨⟨hx0, hx1⟩, hxi⟩; try dsimp only) | (refine G.op (og_callM2 rfl rfl rfl (l1Byte_any (by assumption) (by assumption)).toF) rfl ?_; rintro ⟨xr, xi, xh⟩ ⟨⟨hx0, hx1⟩, hxi⟩; try dsimp only) | (refine G.op (og_callM3 rfl rfl rfl (l1Byte_any (by assumption) (by assumption)).toF) rfl ?_; rintro ⟨xr, xi, xh⟩ ⟨⟨hx0, hx1⟩, hxi⟩; try dsimp only) | (refine G.op (og_callM4 rfl rfl rfl (l1Byte_any (by assumption) (by assumption)).toF) rfl ?_; rintro ⟨xr, xi, xh⟩ ⟨⟨hx0, hx1⟩, hxi⟩; try dsimp only))
          refine G.v (rv_assign rfl) rfl (G.done (G.thenN (G.seq (G.region (G.v (rv_move rfl) rfl ?_))))); refine G.v (rv_mulB rfl rfl (by omega) (by omega)) rfl ?_; refine G.v (rv_move rfl) rfl ?_; refine G.v (rv_mulB rfl rfl (by omega) (by omega)) rfl ?_
          (first | refine G.v (rv_incr rfl rfl (by omega)) rfl ?_ | refine G.v (rv_addB rfl rfl (by omega) (by omega)) rfl ?_)
          refine G.v (rv_move rfl) rfl ?_; refine G.v (rv_mulB rfl rfl (by omega) (by omega)) rfl ?_
          (first | refine G.v (rv_incr rfl rfl (by omega)) rfl ?_ | refine G.v (rv_addB rfl rfl (by omega) (by omega)) rfl ?_)
          refine G.v (rv_move rfl) rfl ?_
          (first | refine G.v (rv_incr rfl rfl (by omega)) rfl ?_ | refine G.v (rv_addB rfl rfl (by omega) (by omega)) rfl ?_)
          refine G.v (rv_move rfl) rfl ?_; refine G.v (rv_rem rfl rfl (by omega)) rfl ?_; refine G.v (rv_assign rfl) rfl (G.done (G.thenN (G.ret ?_)))
          first | exact G.retF (_, _, _) ⟨⟨Int.le_refl 0, fun h0 => absurd h0 (by omega)⟩, hi⟩ rfl rfl rfl (fun w hw => hw) | exact G.retF (_, _, _) ⟨⟨Int.tmod_nonneg _ (by omega), fun _ => Int.tmod_lt_of_pos _ (by omega)⟩, by assumption⟩ rfl rfl rfl (fun w hw => hw)
theorem l1Once_any {w0 : World} {v : Value} {l : List Int} {cb i : Nat} {h : Int} (m : Int) (hv : Rd w0 v 1 (l.map bcell)) (hi : i ≤ l.length) :
    FnM Tryz.prog 182 [pB cb 0, .int .i64 m] w0 [.blk cb 184 [v, .int .i64 i, .int .i64 h]] (fun x : Bool × Nat × Int => x.2.1 ≤ l.length) (fun x => .bool x.1) (fun x => [.blk cb 184 [v, .int .i64 x.2.1, .int .i64 x.2.2]]) := by
  refine FnM.of (n := 9) Tryz.func182 rfl rfl (fun F => ?_); refine G.seq (G.region (G.v (rv_assign rfl) rfl (G.done (G.thenN (G.seq (G.region (G.v (rv_move rfl) rfl (G.v (rv_move rfl) rfl ?_))))))))
  (first | (refine G.op (og_callM0 rfl rfl rfl (l1Below_any _ (by assumption) (by assumption)).toF) rfl ?_; rintro ⟨xr, xi, xh⟩ ⟨⟨hx0, hx1⟩, hxi⟩; try dsimp only) | (refine G.op (og_callM1 rfl rfl rfl (l1Below_any _ (by assumption) (by assumption)).toF) rfl ?_; rintro ⟨xr, xi, xh⟩ ⟨⟨hx0, hx1⟩, hxi⟩; try dsimp only) | (refine G.op (og_callM2 rfl rfl rfl (l1Below_any _ (by assumption) (by assumption)).toF) rfl ?_; rintro ⟨xr, xi, xh⟩ ⟨⟨hx0, hx1⟩, hxi⟩; try dsimp only) | (refine G.op (og_callM3 rfl rfl rfl (l1Below_any _ (by assumption) (by assumption)).toF) rfl ?_; rintro ⟨xr, xi, xh⟩ ⟨⟨hx0, hx1⟩, hxi⟩; try dsimp only) | (refine G.op (og_callM4 rfl rfl rfl (l1Below_any _ (by assumption) (by assumption)).toF) rfl ?_; rintro ⟨xr, xi, xh⟩ ⟨⟨hx0, hx1⟩, hxi⟩; try dsimp only))
  refine G.v (rv_eql rfl rfl) rfl (G.v (rv_assign rfl) rfl (G.done (G.thenN (G.ret ?_))))
  exact G.retF (_, _, _) hxi rfl rfl rfl (fun w hw => hw)
theorem l1PickInt_any {w0 : World} {F : List Ch} {v : Value} {l : List Int} {cb i : Nat} {h : Int} {u : Value} {es : List (List Value)} (hu : ∀ w, HeapOk w0 w F → Rd w u 1 es) (hn : Nat.ble 1 es.length = true) (hs : es.all (fun e => match e with | [.int .i64 _] => true | _ => false) = true) (hv : Rd w0 v 1 (l.map bcell)) (hi : i ≤ l.length) :
    FnMF Tryz.prog 250 [pB cb 0, u] w0 [.blk cb 184 [v, .int .i64 i, .int .i64 h]] F (fun x : Int × Nat × Int => [.int .i64 x.1] ∈ es ∧ x.2.1 ≤ l.length) (fun x => .int .i64 x.1) (fun x => [.blk cb 184 [v, .int .i64 x.2.1, .int .i64 x.2.2]]) := by
  have hn' := Nat.le_of_ble_eq_true hn
  have hu' : ∀ (c : Ch) w, HeapOk w0 w (c :: F) → Rd w u 1 es := fun c w hh => hu w hh.tail
  refine FnMF.of (n := 12) Tryz.func250 rfl rfl ?_; refine G.seq (G.region (G.v (rv_assign rfl) rfl (G.done (G.thenN (G.seq (G.region (G.v (rv_move rfl) rfl (G.v (rv_move rfl) rfl (G.v (rv_move rfl) rfl ?_))))))))); refine G.v (rv_len rfl (hu' _)) rfl ?_
  (first | (refine G.op (og_callM0 rfl rfl rfl (l1Below_any _ (by assumption) (by assumption)).toF) rfl ?_; rintro ⟨xr, xi, xh⟩ ⟨⟨hx0, hx1⟩, hxi⟩; try dsimp only) | (refine G.op (og_callM1 rfl rfl rfl (l1Below_any _ (by assumption) (by assumption)).toF) rfl ?_; rintro ⟨xr, xi, xh⟩ ⟨⟨hx0, hx1⟩, hxi⟩; try dsimp only) | (refine G.op (og_callM2 rfl rfl rfl (l1Below_any _ (by assumption) (by assumption)).toF) rfl ?_; rintro ⟨xr, xi, xh⟩ ⟨⟨hx0, hx1⟩, hxi⟩; try dsimp only) | (refine G.op (og_callM3 rfl rfl rfl (l1Below_any _ (by assumption) (by assumption)).toF) rfl ?_; rintro ⟨xr, xi, xh⟩ ⟨⟨hx0, hx1⟩, hxi⟩; try dsimp only) | (refine G.op (og_callM4 rfl rfl rfl (l1Below_any _ (by assumption) (by assumption)).toF) rfl ?_; rintro ⟨xr, xi, xh⟩ ⟨⟨hx0, hx1⟩, hxi⟩; try dsimp only))
  obtain ⟨k, rfl⟩ := Int.eq_ofNat_of_zero_le hx0; obtain ⟨e, he⟩ := get_of_lt (l := es) (k := k) (by omega); have hme := List.mem_of_getElem? he; obtain ⟨z, rfl⟩ := pick_int (List.all_eq_true.1 hs e hme)
  (first | refine G.v (rv_indexH rfl rfl (hu' _) rfl (by assumption)) rfl ?_ | refine G.v (rv_index rfl rfl (hu' _) rfl (by assumption)) rfl ?_)
  refine G.v (rv_loadE rfl (hu' _) (by assumption) rfl) rfl ?_; refine G.v (rv_assign rfl) rfl (G.done (G.thenN (G.ret ?_)))
  exact G.retF (z, _, _) ⟨hme, hxi⟩ rfl rfl rfl (fun w hw => hw)
theorem big_any {v : Value} {l : List Int} (w : World) (h : Rd w v 1 (l.map bcell)) : FnV Tryz.prog 55 [v] w (.bool (decide (((l.map bcell).length : Int) > 1048576))) := by
  refine FnV.of (n := 6) Tryz.func55 rfl rfl ?_; refine G.seq (G.region (G.v (rv_assign rfl) rfl (G.done (G.thenN (G.seq (G.region (G.v (rv_move rfl) rfl ?_))))))); refine G.v (rv_len rfl (by first | exact Rd.stays (by assumption))) rfl ?_; refine G.v (rv_gtr rfl rfl) rfl (G.v (rv_assign rfl) rfl (G.done (G.thenN (G.ret ?_))))
  exact G.retFV rfl rfl rfl
end Go.Proofs.YtibkggjbkgdnkaaGreat

/-
  Orders that the draws hand out.
-/
namespace Go.Proofs.YtibkggjbkgdnkaaGreat
open Go.RowKit
theorem GE.knowD {P : Program} {ops : Array Oper} {Q : Exit → Act → World → Prop} {qs : List Nat} {n : Nat} {w0 : World} {HC : List Ch} {f : Nat} {listed : Array Bool} {fr : Fr} {H : List Ch} {p : Prop} (hp : ∀ w, HeapOk w0 w H → p) (h : p → GE P ops Q qs n w0 HC f listed fr H) : GE P ops Q qs n w0 HC f listed fr H := G.know hp h
theorem G.cut {P : Program} {n : Nat} {w0 : World} {fr : Fr} {H : List Ch} {Q : Exit → Act → World → Prop} {K : Act → World → Prop} {ι : Type} {c : Code} {ks : List Nat} {gr : Fr} {H0 : List Ch} (ch : ι → Fr) (hs : ι → List Ch) (pI : ι → Prop) (m0 : Nat) (hk : Keep fr ks gr) (hH0 : H.drop m0 = H0)
    (h1 : G n w0 fr H (c.wp P (Exit.then (fun a w => ∃ i, pI i ∧ Rep n a (ch i ++ gr) ∧ HeapOk w0 w (hs i ++ H0)) Q))) (h2 : ∀ i, pI i → G n w0 (ch i ++ gr) (hs i ++ H0) (Exit.then K Q .normal)) : G n w0 fr H (c.wp P (Exit.then K Q)) := by
  intro a w hr hh
  refine wp_mono (h1 a w hr hh) fun e a' w' hq => ?_
  cases e with
  | normal => obtain ⟨i, h3, h4, h5⟩ := hq; exact h2 i h3 a' w' h4 h5
  | exit id => exact hq
  | goto l => exact hq
  | ret => exact hq
  | panic ch => exact hq
  | outgrown => exact hq
theorem G.cutEnd {n : Nat} {w0 : World} {fr : Fr} {H : List Ch} {Q : Exit → Act → World → Prop} {ι : Type} {ks : List Nat} {gr : Fr} {H0 : List Ch} {ch : ι → Fr} {hs : ι → List Ch} {pI : ι → Prop} (i' : ι) (m : Nat) (hH : H.drop m = hs i' ++ H0) (hk : Keep fr ks gr) (hc : Sub (ch i') fr) (hp : pI i') :
    G n w0 fr H (Exit.then (fun a' w' => ∃ i', pI i' ∧ Rep n a' (ch i' ++ gr) ∧ HeapOk w0 w' (hs i' ++ H0)) Q .normal) :=
  fun _ _ hr hh => ⟨i', hp, hr.sub (Sub.append hc hk.sub), hH ▸ hh.drop m⟩
attribute [local irreducible] Go.wpList Go.Code.wp Go.Exit.then Go.Exit.inBlock Go.bodyPost Go.Calls pE pB G RunsV FnV Fn FnM
set_option maxRecDepth 100000
set_option maxHeartbeats 4000000
theorem three_eqD {a a' b b' c c' : Ch} {F : List Ch} (h1 : a = a') (h2 : b = b') (h3 : c = c') : a :: b :: c :: F = [a', b', c'] ++ F := by subst h1 h2 h3; rfl
theorem G.keep3D {n : Nat} {w0 : World} {fr : Fr} {H : List Ch} (m : Nat) {c1 c2 c3 : Ch} {J : List Ch} {K : Act → World → Prop} (hH : H = c1 :: c2 :: c3 :: J) (h : G n w0 fr (c1 :: c2 :: c3 :: J.drop m) K) : G n w0 fr H K := G.heap (fun w hh => by subst hH; exact hh.sublist (List.Sublist.cons_cons _ (List.Sublist.cons_cons _ (List.Sublist.cons_cons _ (List.drop_sublist m J))))) h
/-- Drawn types have small numbers and cost little. -/
def TyFar (l : List TypeM) : Prop := ∀ t ∈ l, t.id ≤ 20 ∧ t.cost ≤ 20
theorem TyFar.snoc {l : List TypeM} {t : TypeM} (h : TyFar l) (a : t.id ≤ 20) (b : t.cost ≤ 20) : TyFar (l ++ [t]) := fun s hs => by
  rcases List.mem_append.1 hs with hs | hs
  · exact h s hs
  · rw [List.mem_singleton.1 hs]; exact ⟨a, b⟩
theorem TyFar.one {t : TypeM} (a : t.id ≤ 20) (b : t.cost ≤ 20) : TyFar [t] := fun s hs => by
  rw [List.mem_singleton.1 hs]; exact ⟨a, b⟩
theorem pick_cost {z : Int} (h : [Value.int .i64 z] ∈ [[Value.int .i64 9], [Value.int .i64 20]]) : z ≤ 20 := by
  simp only [List.mem_cons, List.cons.injEq, Value.int.injEq, List.not_mem_nil, or_false, and_true, true_and] at h
  omega
theorem l2Right_any {w0 : World} {v : Value} {l : List Int} {cb i : Nat} {h : Int} (hv : Rd w0 v 1 (l.map bcell)) (hi : i ≤ l.length) :
    FnM Tryz.prog 249 [pB cb 0] w0 [.blk cb 184 [v, .int .i64 i, .int .i64 h]] (fun x : (ReqM × Value × Value × Value) × Nat × Int => ((x.1.2.1.oneCell' = true ∧ x.1.2.2.1.oneCell' = true ∧ x.1.2.2.2.oneCell' = true) ∧ x.1.1.pairs.length ≤ 32 ∧ 1 ≤ x.1.1.types.length ∧ x.1.1.types.length ≤ 8 ∧ x.1.1.items.length ≤ 6 ∧ TyFar x.1.1.types) ∧ x.2.1 ≤ l.length)
      (fun x => .agg (x.1.1.cells x.1.2.1 x.1.2.2.1 x.1.2.2.2).toArray) (fun x => [.row x.1.2.2.2 106 7 (x.1.1.items.map ItemM.cells), .row x.1.2.2.1 82 7 (x.1.1.types.map TypeM.cells), .row x.1.2.1 145 2 (x.1.1.pairs.map PairM.cells), .blk cb 184 [v, .int .i64 x.2.1, .int .i64 x.2.2]]) := by
  refine FnM.of (n := 165) Tryz.func249 rfl rfl (fun F => ?_); refine G.seq (G.region ?_); refine G.op (og_alloc) rfl (fun bk2 _ => ?_); refine G.done (G.thenN (G.seq (G.region (G.v (rv_move rfl) rfl ?_))))
  (refine G.op (og_callM1 rfl rfl rfl (l1Below_any _ (by assumption) (by assumption)).toF) rfl ?_; rintro ⟨wy, xi, xh⟩ ⟨⟨hx0, hx1⟩, hxi⟩; try dsimp only)
  refine G.v (rv_move rfl) rfl ?_; refine G.op (og_lit rfl (.cons rfl (.cons rfl (.cons rfl .nil))) rfl rfl rfl rfl rfl rfl) rfl (fun vl _ => ?_)
  (refine G.op (og_callM1 rfl rfl rfl (l1PickInt_any (by exact Rd.owned 0 rfl) rfl rfl (by assumption) (by assumption))) rfl ?_; rintro ⟨pw, xi, xh⟩ ⟨hxm, hxi⟩; try dsimp only)
  refine G.v (rv_move rfl) rfl ?_; refine G.op (og_lit rfl (.cons rfl (.cons rfl (.cons rfl .nil))) rfl rfl rfl rfl rfl rfl) rfl (fun vl _ => ?_)
  (refine G.op (og_callM1 rfl rfl rfl (l1PickInt_any (by exact Rd.owned 0 rfl) rfl rfl (by assumption) (by assumption))) rfl ?_; rintro ⟨pd, xi, xh⟩ ⟨hxm, hxi⟩; try dsimp only)
  refine G.v (rv_move rfl) rfl ?_; refine G.op (og_lit rfl (.cons rfl (.cons rfl (.cons rfl .nil))) rfl rfl rfl rfl rfl rfl) rfl (fun vl _ => ?_)
  (refine G.op (og_callM1 rfl rfl rfl (l1PickInt_any (by exact Rd.owned 0 rfl) rfl rfl (by assumption) (by assumption))) rfl ?_; rintro ⟨ph, xi, xh⟩ ⟨hxm, hxi⟩; try dsimp only)
  refine G.v (rv_move rfl) rfl ?_; refine G.op (og_lit rfl (.cons rfl (.cons rfl (.cons rfl .nil))) rfl rfl rfl rfl rfl rfl) rfl (fun vl _ => ?_)
  (refine G.op (og_callM1 rfl rfl rfl (l1PickInt_any (by exact Rd.owned 0 rfl) rfl rfl (by assumption) (by assumption))) rfl ?_; rintro ⟨pg, xi, xh⟩ ⟨hxm, hxi⟩; try dsimp only)
  refine G.v (rv_build2 rfl (.cons rfl (.cons rfl (.cons rfl (.cons rfl .nil)))) (.cons rfl rfl (.zero (.cons .nil)) (.cons rfl rfl (.succ (.zero (.cons .nil))) (.cons rfl rfl (.succ (.succ (.zero (.cons .nil)))) (.cons rfl rfl (.succ (.succ (.succ (.zero (.cons .nil))))) .nil))))) rfl ?_; refine G.v (rv_move rfl) rfl ?_
  (refine G.op (og_callM0 rfl rfl rfl (l1Below_any _ (by assumption) (by assumption)).toF) rfl ?_; rintro ⟨cz, xi, xh⟩ ⟨⟨hx0, hx1⟩, hxi⟩; try dsimp only)
  obtain ⟨cl, rfl⟩ := Int.eq_ofNat_of_zero_le hx0; have hcl3 : cl ≤ 3 := (by omega)
  refine G.v (rv_addB rfl rfl (by omega) (by omega)) rfl ?_; refine G.v (rv_build2 rfl (.cons rfl (.cons rfl (.cons rfl (.cons rfl .nil)))) (.cons rfl rfl (.zero (.cons .nil)) (.cons rfl rfl (.succ (.zero (.cons (.cons (.cons (.cons .nil)))))) (.cons rfl rfl (.succ (.succ (.succ (.succ (.succ (.zero (.cons .nil))))))) (.cons rfl rfl (.succ (.succ (.succ (.succ (.succ (.succ (.succ (.succ (.zero (.cons .nil)))))))))) .nil))))) rfl ?_; refine G.op (og_alloc) rfl (fun bk3 _ => ?_); refine G.op0 (og_st0 rfl rfl rfl rfl rfl (by repeat (rfl)) (.zero (.cons (.cons (.cons (.cons (.cons (.cons (.cons (.cons (.cons (.cons .nil)))))))))))) (fun _ _ => ?_); refine G.done (G.thenN (G.seq (G.seq (G.region (G.v (rv_assign rfl) rfl (G.done (G.thenN (G.block ?_))))))))
  -- loop 0: turned [4], kept [0, 2, 3]
  refine G.heap (fun w hh => hh.nilRow 145 2) ?_; refine G.frontB2 cb rfl ?_; refine G.frontR1 (Value.slice none 0 0) rfl ?_; refine G.frontB2 bk3 rfl ?_; refine G.loopK (ι := Nat × Value × List PairM × Nat × Int) (ks := [0, 2, 3]) (fun x => [(4, .int .i64 (x.1 : Int))]) (fun x => [.blk bk3 37 [.int .i64 wy, .int .i64 pw, .int .i64 pd, .int .i64 ph, .int .i64 pg, .int .i64 (1 + (cl : Int)), x.2.1, .slice none 0 0, .int .i64 7, .slice none 0 0], .row x.2.1 145 2 (x.2.2.1.map PairM.cells), .blk cb 184 [v, .int .i64 x.2.2.2.1, .int .i64 x.2.2.2.2]]) (fun x => (x.1 ≤ cl + 1 ∧ x.2.2.1.length ≤ 8 * x.1) ∧ x.2.2.2.1 ≤ l.length) (fun x => cl + 1 - x.1) (0, .slice none 0 0, [], xi, xh) (.cons rfl (.cons rfl (.cons rfl (.nil)))) rfl ?_ ?_ ?_
  · exact ⟨⟨Nat.zero_le _, Nat.zero_le _⟩, hxi⟩
  · exact ⟨rfl, trivial⟩
  rintro ⟨a, pv, ps, xi, xh⟩ ⟨⟨ha, hpl⟩, hxi⟩
  dsimp only at ha hpl hxi ⊢
  by_cases hlt : a < cl + 1
  case' neg => (refine G.heap (fun w hh => hh.nilRow 82 7) ?_)
  all_goals
   refine G.seq (G.seq (G.region (G.v (rv_move rfl) rfl (G.v (rv_field rfl) rfl ?_))))
   (first | refine G.v (rv_load1 0 rfl rfl rfl) rfl ?_ | refine G.v (rv_load1 1 rfl rfl rfl) rfl ?_)
   refine G.v (rv_lss rfl rfl) rfl (G.done (G.thenN ?_)); refine G.cond rfl (fun hc => ?_) (fun hc => ?_)
   · try exact Bool.noConfusion hc
     all_goals
      try replace hc := of_decide_eq_true hc
      try (exfalso; omega)
      all_goals
       refine G.skip (G.thenN (G.seq (G.block (G.seq (G.region (G.v (rv_assign rfl) rfl (G.done (G.thenN (G.block ?_)))))))))
       -- loop 1: turned [5], kept [0, 2, 3, 4]
       refine G.loopK (ι := Nat × Value × List PairM × Nat × Int) (ks := [0, 2, 3, 4]) (fun x => [(5, .int .i64 (x.1 : Int))]) (fun x => [.blk bk3 37 [.int .i64 wy, .int .i64 pw, .int .i64 pd, .int .i64 ph, .int .i64 pg, .int .i64 (1 + (cl : Int)), x.2.1, .slice none 0 0, .int .i64 7, .slice none 0 0], .row x.2.1 145 2 (x.2.2.1.map PairM.cells), .blk cb 184 [v, .int .i64 x.2.2.2.1, .int .i64 x.2.2.2.2]]) (fun x => (x.1 ≤ a + 1 ∧ x.2.2.1.length ≤ 8 * a + 2 * x.1) ∧ x.2.2.2.1 ≤ l.length) (fun x => a + 1 - x.1) (0, pv, ps, xi, xh) (.cons rfl (.cons rfl (.cons rfl (.cons rfl (.nil))))) rfl ?_ ?_ ?_
       · exact ⟨⟨Nat.zero_le _, by dsimp only; omega⟩, hxi⟩
       · exact ⟨rfl, trivial⟩
       rintro ⟨b, pv2, ps2, xi2, xh2⟩ ⟨⟨hb, hpl2⟩, hxi2⟩
       dsimp only at hb hpl2 hxi2 ⊢
       have hpl3 : (ps2.map PairM.cells).length = ps2.length := by simp
       all_goals
        refine G.seq (G.seq (G.region (G.v (rv_move rfl) rfl (G.v (rv_move rfl) rfl (G.v (rv_leq rfl rfl) rfl (G.done (G.thenN ?_))))))); refine G.cond rfl (fun hc => ?_) (fun hc => ?_)
        · try exact Bool.noConfusion hc
          all_goals
           try replace hc := of_decide_eq_true hc
           try (exfalso; contradiction)
           all_goals
            refine G.skip (G.thenN (G.seq (G.block (G.seq (G.region (G.v (rv_move rfl) rfl (G.v (rv_move rfl) rfl (G.v (rv_eql rfl rfl) rfl (G.done (G.thenN ?_)))))))))); refine G.cond rfl (fun hc => ?_) (fun hc => ?_)
            · try exact Bool.noConfusion hc
              all_goals
               try replace hc := of_decide_eq_true hc
               try (exfalso; contradiction)
               all_goals
                refine G.region (G.v (rv_field rfl) rfl (G.v (rv_load1 0 rfl rfl rfl) rfl (G.v (rv_move rfl) rfl (G.v (rv_move rfl) rfl ?_)))); refine G.v (rv_build2 rfl (.cons rfl (.cons rfl .nil)) (.cons rfl rfl (.zero (.cons .nil)) (.cons rfl rfl (.succ (.zero (.cons .nil))) .nil))) rfl ?_; refine G.op (og_lit rfl (.cons rfl .nil) rfl rfl rfl rfl rfl rfl) rfl (fun vx _ => ?_); refine G.op (og_app2 rfl rfl rfl (by exact Rd.owned 0 rfl) rfl rfl (by (simp; omega)) (by (simp; omega))) rfl (fun va _ => ?_); refine G.know (fun w hw => by exact (Rd.owned 2 rfl (v := va) w hw).one_) (fun hova => ?_); refine G.v (rv_field rfl) rfl ?_; refine G.op0 (og_st1 rfl rfl rfl (cells_one (by assumption)) rfl (by repeat (first | rfl | refine one_cons (by assumption) ?_)) (.succ (.succ (.succ (.succ (.succ (.succ (.zero (.cons .nil))))))))) (fun _ _ => ?_); refine G.done (G.inN (G.thenN (G.region (G.v (rv_move rfl) rfl ?_)))); refine G.v (rv_incr rfl rfl (by omega)) rfl ?_; refine G.v (rv_assign rfl) rfl (G.done ?_); refine G.frontB3 cb rfl ?_; refine G.frontR3 va rfl ?_; refine G.frontB3 bk3 rfl ?_
                (refine G.keep3D 1 rfl ?_; refine G.backK (b + 1, va, ps2 ++ [⟨_, _⟩], _, _) 0 (by (exact three_eqD rfl (congrArg (fun z => Ch.row va 145 2 z) (by rw [List.map_append]; rfl)) rfl)) (.cons rfl (.cons rfl (.cons rfl (.cons rfl (.nil))))) ?_ ?_ ?_)
                · exact ⟨rfl, trivial⟩
                · exact ⟨⟨by dsimp only; omega, by simp; omega⟩, by assumption⟩
                · dsimp only; omega
            · try exact Bool.noConfusion hc
              all_goals
               try replace hc := of_decide_eq_false hc
               try (exfalso; contradiction)
               all_goals
                refine G.seq (G.region (G.v (rv_move rfl) rfl ?_))
                (refine G.op (og_callM2 rfl rfl rfl (l1Once_any _ (by assumption) (by assumption)).toF) rfl ?_; rintro ⟨xr, xi, xh⟩ hxi; try dsimp only)
                refine G.done (G.thenN ?_); refine G.cond rfl (fun hc => ?_) (fun hc => ?_)
                · try exact Bool.noConfusion hc
                  all_goals
                   try replace hc := of_decide_eq_true hc
                   try (exfalso; contradiction)
                   all_goals
                    refine G.region (G.v (rv_field rfl) rfl (G.v (rv_load1 1 rfl rfl rfl) rfl (G.v (rv_move rfl) rfl (G.v (rv_move rfl) rfl ?_)))); refine G.v (rv_build2 rfl (.cons rfl (.cons rfl .nil)) (.cons rfl rfl (.zero (.cons .nil)) (.cons rfl rfl (.succ (.zero (.cons .nil))) .nil))) rfl ?_; refine G.v (rv_move rfl) rfl (G.v (rv_move rfl) rfl ?_); refine G.v (rv_build2 rfl (.cons rfl (.cons rfl .nil)) (.cons rfl rfl (.zero (.cons .nil)) (.cons rfl rfl (.succ (.zero (.cons .nil))) .nil))) rfl ?_; refine G.op (og_lit rfl (.cons rfl (.cons rfl .nil)) rfl rfl rfl rfl rfl rfl) rfl (fun vx _ => ?_); refine G.op (og_app3 rfl rfl rfl (by exact Rd.owned 0 rfl) rfl rfl (by (simp; omega)) (by (simp; omega))) rfl (fun va _ => ?_); refine G.know (fun w hw => by exact (Rd.owned 3 rfl (v := va) w hw).one_) (fun hova => ?_); refine G.v (rv_field rfl) rfl ?_; refine G.op0 (og_st2 rfl rfl rfl (cells_one (by assumption)) rfl (by repeat (first | rfl | refine one_cons (by assumption) ?_)) (.succ (.succ (.succ (.succ (.succ (.succ (.zero (.cons .nil))))))))) (fun _ _ => ?_); refine G.done (G.inN (G.thenN (G.region (G.v (rv_move rfl) rfl ?_)))); refine G.v (rv_incr rfl rfl (by omega)) rfl ?_; refine G.v (rv_assign rfl) rfl (G.done ?_); refine G.frontB1 cb rfl ?_; refine G.frontR3 va rfl ?_; refine G.frontB3 bk3 rfl ?_
                    (refine G.keep3D 1 rfl ?_; refine G.backK (b + 1, va, ps2 ++ [⟨_, _⟩, ⟨_, _⟩], _, _) 0 (by (exact three_eqD rfl (congrArg (fun z => Ch.row va 145 2 z) (by rw [List.map_append]; rfl)) rfl)) (.cons rfl (.cons rfl (.cons rfl (.cons rfl (.nil))))) ?_ ?_ ?_)
                    · exact ⟨rfl, trivial⟩
                    · exact ⟨⟨by dsimp only; omega, by simp; omega⟩, by assumption⟩
                    · dsimp only; omega
                · try exact Bool.noConfusion hc
                  all_goals
                   try replace hc := of_decide_eq_false hc
                   try (exfalso; contradiction)
                   all_goals
                    refine G.skip (G.inN (G.thenN (G.region (G.v (rv_move rfl) rfl ?_)))); refine G.v (rv_incr rfl rfl (by omega)) rfl ?_; refine G.v (rv_assign rfl) rfl (G.done ?_); refine G.frontB0 cb rfl ?_; refine G.frontR2 pv2 rfl ?_; refine G.frontB2 bk3 rfl ?_
                    (refine G.keep3D 0 rfl ?_; refine G.backK (b + 1, pv2, ps2, _, _) 0 (by exact three_eqD rfl rfl rfl) (.cons rfl (.cons rfl (.cons rfl (.cons rfl (.nil))))) ?_ ?_ ?_)
                    · exact ⟨rfl, trivial⟩
                    · exact ⟨⟨by dsimp only; omega, by simp; omega⟩, by assumption⟩
                    · dsimp only; omega
        · try exact Bool.noConfusion hc
          all_goals
           try replace hc := of_decide_eq_false hc
           try (exfalso; contradiction)
           all_goals
            refine G.exit (G.thenX (G.thenX (G.inX (G.inN (G.thenN (G.region (G.v (rv_move rfl) rfl ?_))))))); refine G.v (rv_incr rfl rfl (by omega)) rfl ?_; refine G.v (rv_assign rfl) rfl (G.done ?_); refine G.backK (a + 1, pv2, ps2, xi2, xh2) 0 rfl (.cons rfl (.cons rfl (.cons rfl (.nil)))) ?_ ?_ ?_
            · exact ⟨rfl, trivial⟩
            · exact ⟨⟨by dsimp only; omega, by dsimp only; omega⟩, hxi2⟩
            · dsimp only; omega
   · try exact Bool.noConfusion hc
     all_goals
      try replace hc := of_decide_eq_false hc
      try (exfalso; omega)
      all_goals
       refine G.exit (G.thenX (G.thenX (G.inX (G.thenN (G.seq ?_))))); refine G.frontB3 cb rfl ?_; refine G.frontR1 (Value.slice none 0 0) rfl ?_; refine G.frontB2 bk3 rfl ?_; refine G.cut (ι := Value × TypeM × Nat × Int) (ks := [0, 2, 3]) (fun _ => []) (fun x => [.blk bk3 37 [.int .i64 wy, .int .i64 pw, .int .i64 pd, .int .i64 ph, .int .i64 pg, .int .i64 (1 + (cl : Int)), pv, x.1, .int .i64 7, .slice none 0 0], .row x.1 82 7 [x.2.1.cells], .blk cb 184 [v, .int .i64 x.2.2.1, .int .i64 x.2.2.2]]) (fun x => (x.1.oneCell' = true ∧ TyFar [x.2.1]) ∧ x.2.2.1 ≤ l.length) 3 (.cons rfl (.cons rfl (.cons rfl (.nil)))) rfl ?_ ?_
       focus
         refine G.frontB2 cb rfl ?_; refine G.frontR2 (Value.slice none 0 0) rfl ?_; refine G.drawD2 [13, 14] rfl ?_; refine GE.q2 0 rfl (by as_aux_lemma => kernel_rfl) rfl (qg_runs (rv_field rfl)) (fun _ h => by exact h.drop 2) rfl ?_; refine GE.q2 1 rfl (by as_aux_lemma => kernel_rfl) rfl (qg_runs (rv_load1 0 rfl rfl rfl)) (fun _ h => by exact h.drop 2) rfl ?_; refine GE.q2 2 rfl (by as_aux_lemma => kernel_rfl) rfl (qg_runs (rv_move rfl)) (fun _ h => by exact h.drop 2) rfl ?_; refine GE.q2 4 rfl (by as_aux_lemma => kernel_rfl) rfl (qg_runs (rv_move rfl)) (fun _ h => by exact h.drop 2) rfl ?_; refine GE.q2 7 rfl (by as_aux_lemma => kernel_rfl) rfl (qg_runs (rv_move rfl)) (fun _ h => by exact h.drop 2) rfl ?_; refine GE.any (rs := [3, 5, 8]) (by as_aux_lemma => kernel_rfl) (by simp) ?_; refine List.forall_mem_cons.2 ⟨?_, List.forall_mem_cons.2 ⟨?_, List.forall_mem_cons.2 ⟨?_, fun _ h => absurd h List.not_mem_nil⟩⟩⟩
         focus
           (refine GE.pickOp rfl rfl rfl (og_callM1 rfl rfl rfl (l1Below_any _ (by assumption) (by assumption)).toF) rfl (fun _ _ h => by exact h.drop 2) ?_; rintro ⟨xr, xi, xh⟩ ⟨⟨hx0, hx1⟩, hxi⟩; try dsimp only)
           refine GE.any (rs := [5, 8]) (by as_aux_lemma => kernel_rfl) (by simp) ?_; refine List.forall_mem_cons.2 ⟨?_, List.forall_mem_cons.2 ⟨?_, fun _ h => absurd h List.not_mem_nil⟩⟩
           focus
             refine GE.pickOp rfl rfl rfl (og_lit rfl (.cons rfl (.cons rfl (.cons rfl .nil))) rfl rfl rfl rfl rfl rfl) rfl (fun _ _ h => by exact h.drop 3) (fun vl _ => ?_); refine GE.any (rs := [6, 8]) (by as_aux_lemma => kernel_rfl) (by simp) ?_; refine List.forall_mem_cons.2 ⟨?_, List.forall_mem_cons.2 ⟨?_, fun _ h => absurd h List.not_mem_nil⟩⟩
             focus
               (refine GE.pickOp rfl rfl rfl (og_callM1 rfl rfl rfl (l1PickInt_any (by exact Rd.owned 0 rfl) rfl rfl (by assumption) (by assumption))) rfl (fun _ _ h => by exact h.drop 3) ?_; rintro ⟨xr, xi, xh⟩ ⟨hxm, hxi⟩; try dsimp only)
               refine GE.ol 8 (by as_aux_lemma => kernel_rfl) rfl rfl (og_lit rfl (.cons rfl (.cons rfl .nil)) rfl rfl rfl rfl rfl rfl) rfl (fun _ _ h => by exact h.drop 4) (fun vl _ => ?_)
               (refine GE.ol 9 (by as_aux_lemma => kernel_rfl) rfl rfl (og_callM1 rfl rfl rfl (l1PickInt_any (by exact Rd.owned 0 rfl) rfl rfl (by assumption) (by assumption))) rfl (fun _ _ h => by exact h.drop 4) ?_; rintro ⟨xr, xi, xh⟩ ⟨hxm, hxi⟩; try dsimp only)
               refine GE.ol 10 (by as_aux_lemma => kernel_rfl) rfl rfl (og_runs (rv_build2 rfl (.cons rfl (.cons rfl (.cons rfl (.cons rfl (.cons rfl (.cons rfl (.cons rfl .nil))))))) (.cons rfl rfl (.zero (.cons .nil)) (.cons rfl rfl (.succ (.zero (.cons .nil))) (.cons rfl rfl (.succ (.succ (.zero (.cons .nil)))) (.cons rfl rfl (.succ (.succ (.succ (.zero (.cons .nil))))) (.cons rfl rfl (.succ (.succ (.succ (.succ (.zero (.cons .nil)))))) (.cons rfl rfl (.succ (.succ (.succ (.succ (.succ (.zero (.cons .nil))))))) (.cons rfl rfl (.succ (.succ (.succ (.succ (.succ (.succ (.zero (.cons .nil)))))))) .nil))))))))) rfl (fun _ _ h => by exact h.drop 4) (fun _ _ => ?_); refine GE.ol 11 (by as_aux_lemma => kernel_rfl) rfl rfl (og_lit rfl (.cons rfl .nil) rfl rfl rfl rfl rfl rfl) rfl (fun _ _ h => by exact h.drop 5) (fun vl _ => ?_); refine GE.ol 12 (by as_aux_lemma => kernel_rfl) rfl rfl (og_app4 rfl rfl rfl (by exact Rd.owned 0 rfl) rfl rfl (by (simp; done)) (by (simp; done))) rfl (fun _ _ h => by exact h.drop 5) (fun tv1 _ => ?_)
               skip; refine GE.knowD (fun w hw => (Rd.owned 4 rfl (v := tv1) w hw).one_) (fun hotv => ?_)
               refine GE.t 13 (by as_aux_lemma => kernel_rfl) rfl rfl rfl (og_runs (rv_field rfl)) rfl (fun _ _ => ?_); refine GE.t0 14 (by as_aux_lemma => kernel_rfl) rfl rfl rfl (og_st5 rfl rfl rfl (cells_one (by assumption)) rfl (by repeat (first | rfl | refine one_cons (by assumption) ?_)) (.succ (.succ (.succ (.succ (.succ (.succ (.succ (.zero (.cons .nil)))))))))) (fun _ _ => ?_); refine GE.done (by as_aux_lemma => kernel_rfl) ?_
             rotate_left
             focus
               refine GE.pickOp rfl rfl rfl (og_lit rfl (.cons rfl (.cons rfl .nil)) rfl rfl rfl rfl rfl rfl) rfl (fun _ _ h => by exact h.drop 4) (fun vl _ => ?_)
               (refine GE.ol 6 (by as_aux_lemma => kernel_rfl) rfl rfl (og_callM2 rfl rfl rfl (l1PickInt_any (by exact Rd.owned 1 rfl) rfl rfl (by assumption) (by assumption))) rfl (fun _ _ h => by exact h.drop 4) ?_; rintro ⟨xr, xi, xh⟩ ⟨hxm, hxi⟩; try dsimp only)
               (refine GE.ol 9 (by as_aux_lemma => kernel_rfl) rfl rfl (og_callM0 rfl rfl rfl (l1PickInt_any (by exact Rd.owned 0 rfl) rfl rfl (by assumption) (by assumption))) rfl (fun _ _ h => by exact h.drop 4) ?_; rintro ⟨xr, xi, xh⟩ ⟨hxm, hxi⟩; try dsimp only)
               refine GE.ol 10 (by as_aux_lemma => kernel_rfl) rfl rfl (og_runs (rv_build2 rfl (.cons rfl (.cons rfl (.cons rfl (.cons rfl (.cons rfl (.cons rfl (.cons rfl .nil))))))) (.cons rfl rfl (.zero (.cons .nil)) (.cons rfl rfl (.succ (.zero (.cons .nil))) (.cons rfl rfl (.succ (.succ (.zero (.cons .nil)))) (.cons rfl rfl (.succ (.succ (.succ (.zero (.cons .nil))))) (.cons rfl rfl (.succ (.succ (.succ (.succ (.zero (.cons .nil)))))) (.cons rfl rfl (.succ (.succ (.succ (.succ (.succ (.zero (.cons .nil))))))) (.cons rfl rfl (.succ (.succ (.succ (.succ (.succ (.succ (.zero (.cons .nil)))))))) .nil))))))))) rfl (fun _ _ h => by exact h.drop 4) (fun _ _ => ?_); refine GE.ol 11 (by as_aux_lemma => kernel_rfl) rfl rfl (og_lit rfl (.cons rfl .nil) rfl rfl rfl rfl rfl rfl) rfl (fun _ _ h => by exact h.drop 5) (fun vl _ => ?_); refine GE.ol 12 (by as_aux_lemma => kernel_rfl) rfl rfl (og_app4 rfl rfl rfl (by exact Rd.owned 0 rfl) rfl rfl (by (simp; done)) (by (simp; done))) rfl (fun _ _ h => by exact h.drop 5) (fun tv1 _ => ?_)
               skip; refine GE.knowD (fun w hw => (Rd.owned 4 rfl (v := tv1) w hw).one_) (fun hotv => ?_)
               refine GE.t 13 (by as_aux_lemma => kernel_rfl) rfl rfl rfl (og_runs (rv_field rfl)) rfl (fun _ _ => ?_); refine GE.t0 14 (by as_aux_lemma => kernel_rfl) rfl rfl rfl (og_st5 rfl rfl rfl (cells_one (by assumption)) rfl (by repeat (first | rfl | refine one_cons (by assumption) ?_)) (.succ (.succ (.succ (.succ (.succ (.succ (.succ (.zero (.cons .nil)))))))))) (fun _ _ => ?_); refine GE.done (by as_aux_lemma => kernel_rfl) ?_
             rotate_left
           rotate_left 2
           focus
             refine GE.pickOp rfl rfl rfl (og_lit rfl (.cons rfl (.cons rfl .nil)) rfl rfl rfl rfl rfl rfl) rfl (fun _ _ h => by exact h.drop 3) (fun vl _ => ?_); refine GE.ol 5 (by as_aux_lemma => kernel_rfl) rfl rfl (og_lit rfl (.cons rfl (.cons rfl (.cons rfl .nil))) rfl rfl rfl rfl rfl rfl) rfl (fun _ _ h => by exact h.drop 4) (fun vl _ => ?_)
             (refine GE.ol 6 (by as_aux_lemma => kernel_rfl) rfl rfl (og_callM2 rfl rfl rfl (l1PickInt_any (by exact Rd.owned 0 rfl) rfl rfl (by assumption) (by assumption))) rfl (fun _ _ h => by exact h.drop 4) ?_; rintro ⟨xr, xi, xh⟩ ⟨hxm, hxi⟩; try dsimp only)
             (refine GE.ol 9 (by as_aux_lemma => kernel_rfl) rfl rfl (og_callM0 rfl rfl rfl (l1PickInt_any (by exact Rd.owned 1 rfl) rfl rfl (by assumption) (by assumption))) rfl (fun _ _ h => by exact h.drop 4) ?_; rintro ⟨xr, xi, xh⟩ ⟨hxm, hxi⟩; try dsimp only)
             refine GE.ol 10 (by as_aux_lemma => kernel_rfl) rfl rfl (og_runs (rv_build2 rfl (.cons rfl (.cons rfl (.cons rfl (.cons rfl (.cons rfl (.cons rfl (.cons rfl .nil))))))) (.cons rfl rfl (.zero (.cons .nil)) (.cons rfl rfl (.succ (.zero (.cons .nil))) (.cons rfl rfl (.succ (.succ (.zero (.cons .nil)))) (.cons rfl rfl (.succ (.succ (.succ (.zero (.cons .nil))))) (.cons rfl rfl (.succ (.succ (.succ (.succ (.zero (.cons .nil)))))) (.cons rfl rfl (.succ (.succ (.succ (.succ (.succ (.zero (.cons .nil))))))) (.cons rfl rfl (.succ (.succ (.succ (.succ (.succ (.succ (.zero (.cons .nil)))))))) .nil))))))))) rfl (fun _ _ h => by exact h.drop 4) (fun _ _ => ?_); refine GE.ol 11 (by as_aux_lemma => kernel_rfl) rfl rfl (og_lit rfl (.cons rfl .nil) rfl rfl rfl rfl rfl rfl) rfl (fun _ _ h => by exact h.drop 5) (fun vl _ => ?_); refine GE.ol 12 (by as_aux_lemma => kernel_rfl) rfl rfl (og_app4 rfl rfl rfl (by exact Rd.owned 0 rfl) rfl rfl (by (simp; done)) (by (simp; done))) rfl (fun _ _ h => by exact h.drop 5) (fun tv1 _ => ?_)
             skip; refine GE.knowD (fun w hw => (Rd.owned 4 rfl (v := tv1) w hw).one_) (fun hotv => ?_)
             refine GE.t 13 (by as_aux_lemma => kernel_rfl) rfl rfl rfl (og_runs (rv_field rfl)) rfl (fun _ _ => ?_); refine GE.t0 14 (by as_aux_lemma => kernel_rfl) rfl rfl rfl (og_st5 rfl rfl rfl (cells_one (by assumption)) rfl (by repeat (first | rfl | refine one_cons (by assumption) ?_)) (.succ (.succ (.succ (.succ (.succ (.succ (.succ (.zero (.cons .nil)))))))))) (fun _ _ => ?_); refine GE.done (by as_aux_lemma => kernel_rfl) ?_
           rotate_left
         rotate_left 3
         focus
           refine GE.pickOp rfl rfl rfl (og_lit rfl (.cons rfl (.cons rfl (.cons rfl .nil))) rfl rfl rfl rfl rfl rfl) rfl (fun _ _ h => by exact h.drop 3) (fun vl _ => ?_); refine GE.any (rs := [3, 8]) (by as_aux_lemma => kernel_rfl) (by simp) ?_; refine List.forall_mem_cons.2 ⟨?_, List.forall_mem_cons.2 ⟨?_, fun _ h => absurd h List.not_mem_nil⟩⟩
           focus
             (refine GE.pickOp rfl rfl rfl (og_callM2 rfl rfl rfl (l1Below_any _ (by assumption) (by assumption)).toF) rfl (fun _ _ h => by exact h.drop 3) ?_; rintro ⟨xr, xi, xh⟩ ⟨⟨hx0, hx1⟩, hxi⟩; try dsimp only)
             refine GE.any (rs := [6, 8]) (by as_aux_lemma => kernel_rfl) (by simp) ?_; refine List.forall_mem_cons.2 ⟨?_, List.forall_mem_cons.2 ⟨?_, fun _ h => absurd h List.not_mem_nil⟩⟩
             focus
               (refine GE.pickOp rfl rfl rfl (og_callM0 rfl rfl rfl (l1PickInt_any (by exact Rd.owned 0 rfl) rfl rfl (by assumption) (by assumption))) rfl (fun _ _ h => by exact h.drop 3) ?_; rintro ⟨xr, xi, xh⟩ ⟨hxm, hxi⟩; try dsimp only)
               refine GE.ol 8 (by as_aux_lemma => kernel_rfl) rfl rfl (og_lit rfl (.cons rfl (.cons rfl .nil)) rfl rfl rfl rfl rfl rfl) rfl (fun _ _ h => by exact h.drop 4) (fun vl _ => ?_)
               (refine GE.ol 9 (by as_aux_lemma => kernel_rfl) rfl rfl (og_callM1 rfl rfl rfl (l1PickInt_any (by exact Rd.owned 0 rfl) rfl rfl (by assumption) (by assumption))) rfl (fun _ _ h => by exact h.drop 4) ?_; rintro ⟨xr, xi, xh⟩ ⟨hxm, hxi⟩; try dsimp only)
               refine GE.ol 10 (by as_aux_lemma => kernel_rfl) rfl rfl (og_runs (rv_build2 rfl (.cons rfl (.cons rfl (.cons rfl (.cons rfl (.cons rfl (.cons rfl (.cons rfl .nil))))))) (.cons rfl rfl (.zero (.cons .nil)) (.cons rfl rfl (.succ (.zero (.cons .nil))) (.cons rfl rfl (.succ (.succ (.zero (.cons .nil)))) (.cons rfl rfl (.succ (.succ (.succ (.zero (.cons .nil))))) (.cons rfl rfl (.succ (.succ (.succ (.succ (.zero (.cons .nil)))))) (.cons rfl rfl (.succ (.succ (.succ (.succ (.succ (.zero (.cons .nil))))))) (.cons rfl rfl (.succ (.succ (.succ (.succ (.succ (.succ (.zero (.cons .nil)))))))) .nil))))))))) rfl (fun _ _ h => by exact h.drop 4) (fun _ _ => ?_); refine GE.ol 11 (by as_aux_lemma => kernel_rfl) rfl rfl (og_lit rfl (.cons rfl .nil) rfl rfl rfl rfl rfl rfl) rfl (fun _ _ h => by exact h.drop 5) (fun vl _ => ?_); refine GE.ol 12 (by as_aux_lemma => kernel_rfl) rfl rfl (og_app4 rfl rfl rfl (by exact Rd.owned 0 rfl) rfl rfl (by (simp; done)) (by (simp; done))) rfl (fun _ _ h => by exact h.drop 5) (fun tv1 _ => ?_)
               skip; refine GE.knowD (fun w hw => (Rd.owned 4 rfl (v := tv1) w hw).one_) (fun hotv => ?_)
               refine GE.t 13 (by as_aux_lemma => kernel_rfl) rfl rfl rfl (og_runs (rv_field rfl)) rfl (fun _ _ => ?_); refine GE.t0 14 (by as_aux_lemma => kernel_rfl) rfl rfl rfl (og_st5 rfl rfl rfl (cells_one (by assumption)) rfl (by repeat (first | rfl | refine one_cons (by assumption) ?_)) (.succ (.succ (.succ (.succ (.succ (.succ (.succ (.zero (.cons .nil)))))))))) (fun _ _ => ?_); refine GE.done (by as_aux_lemma => kernel_rfl) ?_
             rotate_left
             focus
               refine GE.pickOp rfl rfl rfl (og_lit rfl (.cons rfl (.cons rfl .nil)) rfl rfl rfl rfl rfl rfl) rfl (fun _ _ h => by exact h.drop 4) (fun vl _ => ?_)
               (refine GE.ol 6 (by as_aux_lemma => kernel_rfl) rfl rfl (og_callM1 rfl rfl rfl (l1PickInt_any (by exact Rd.owned 1 rfl) rfl rfl (by assumption) (by assumption))) rfl (fun _ _ h => by exact h.drop 4) ?_; rintro ⟨xr, xi, xh⟩ ⟨hxm, hxi⟩; try dsimp only)
               (refine GE.ol 9 (by as_aux_lemma => kernel_rfl) rfl rfl (og_callM0 rfl rfl rfl (l1PickInt_any (by exact Rd.owned 0 rfl) rfl rfl (by assumption) (by assumption))) rfl (fun _ _ h => by exact h.drop 4) ?_; rintro ⟨xr, xi, xh⟩ ⟨hxm, hxi⟩; try dsimp only)
               refine GE.ol 10 (by as_aux_lemma => kernel_rfl) rfl rfl (og_runs (rv_build2 rfl (.cons rfl (.cons rfl (.cons rfl (.cons rfl (.cons rfl (.cons rfl (.cons rfl .nil))))))) (.cons rfl rfl (.zero (.cons .nil)) (.cons rfl rfl (.succ (.zero (.cons .nil))) (.cons rfl rfl (.succ (.succ (.zero (.cons .nil)))) (.cons rfl rfl (.succ (.succ (.succ (.zero (.cons .nil))))) (.cons rfl rfl (.succ (.succ (.succ (.succ (.zero (.cons .nil)))))) (.cons rfl rfl (.succ (.succ (.succ (.succ (.succ (.zero (.cons .nil))))))) (.cons rfl rfl (.succ (.succ (.succ (.succ (.succ (.succ (.zero (.cons .nil)))))))) .nil))))))))) rfl (fun _ _ h => by exact h.drop 4) (fun _ _ => ?_); refine GE.ol 11 (by as_aux_lemma => kernel_rfl) rfl rfl (og_lit rfl (.cons rfl .nil) rfl rfl rfl rfl rfl rfl) rfl (fun _ _ h => by exact h.drop 5) (fun vl _ => ?_); refine GE.ol 12 (by as_aux_lemma => kernel_rfl) rfl rfl (og_app4 rfl rfl rfl (by exact Rd.owned 0 rfl) rfl rfl (by (simp; done)) (by (simp; done))) rfl (fun _ _ h => by exact h.drop 5) (fun tv1 _ => ?_)
               skip; refine GE.knowD (fun w hw => (Rd.owned 4 rfl (v := tv1) w hw).one_) (fun hotv => ?_)
               refine GE.t 13 (by as_aux_lemma => kernel_rfl) rfl rfl rfl (og_runs (rv_field rfl)) rfl (fun _ _ => ?_); refine GE.t0 14 (by as_aux_lemma => kernel_rfl) rfl rfl rfl (og_st5 rfl rfl rfl (cells_one (by assumption)) rfl (by repeat (first | rfl | refine one_cons (by assumption) ?_)) (.succ (.succ (.succ (.succ (.succ (.succ (.succ (.zero (.cons .nil)))))))))) (fun _ _ => ?_); refine GE.done (by as_aux_lemma => kernel_rfl) ?_
             rotate_left
           rotate_left 2
           focus
             refine GE.pickOp rfl rfl rfl (og_lit rfl (.cons rfl (.cons rfl .nil)) rfl rfl rfl rfl rfl rfl) rfl (fun _ _ h => by exact h.drop 4) (fun vl _ => ?_)
             (refine GE.ol 3 (by as_aux_lemma => kernel_rfl) rfl rfl (og_callM3 rfl rfl rfl (l1Below_any _ (by assumption) (by assumption)).toF) rfl (fun _ _ h => by exact h.drop 4) ?_; rintro ⟨xr, xi, xh⟩ ⟨⟨hx0, hx1⟩, hxi⟩; try dsimp only)
             (refine GE.ol 6 (by as_aux_lemma => kernel_rfl) rfl rfl (og_callM0 rfl rfl rfl (l1PickInt_any (by exact Rd.owned 1 rfl) rfl rfl (by assumption) (by assumption))) rfl (fun _ _ h => by exact h.drop 4) ?_; rintro ⟨xr, xi, xh⟩ ⟨hxm, hxi⟩; try dsimp only)
             (refine GE.ol 9 (by as_aux_lemma => kernel_rfl) rfl rfl (og_callM0 rfl rfl rfl (l1PickInt_any (by exact Rd.owned 0 rfl) rfl rfl (by assumption) (by assumption))) rfl (fun _ _ h => by exact h.drop 4) ?_; rintro ⟨xr, xi, xh⟩ ⟨hxm, hxi⟩; try dsimp only)
             refine GE.ol 10 (by as_aux_lemma => kernel_rfl) rfl rfl (og_runs (rv_build2 rfl (.cons rfl (.cons rfl (.cons rfl (.cons rfl (.cons rfl (.cons rfl (.cons rfl .nil))))))) (.cons rfl rfl (.zero (.cons .nil)) (.cons rfl rfl (.succ (.zero (.cons .nil))) (.cons rfl rfl (.succ (.succ (.zero (.cons .nil)))) (.cons rfl rfl (.succ (.succ (.succ (.zero (.cons .nil))))) (.cons rfl rfl (.succ (.succ (.succ (.succ (.zero (.cons .nil)))))) (.cons rfl rfl (.succ (.succ (.succ (.succ (.succ (.zero (.cons .nil))))))) (.cons rfl rfl (.succ (.succ (.succ (.succ (.succ (.succ (.zero (.cons .nil)))))))) .nil))))))))) rfl (fun _ _ h => by exact h.drop 4) (fun _ _ => ?_); refine GE.ol 11 (by as_aux_lemma => kernel_rfl) rfl rfl (og_lit rfl (.cons rfl .nil) rfl rfl rfl rfl rfl rfl) rfl (fun _ _ h => by exact h.drop 5) (fun vl _ => ?_); refine GE.ol 12 (by as_aux_lemma => kernel_rfl) rfl rfl (og_app4 rfl rfl rfl (by exact Rd.owned 0 rfl) rfl rfl (by (simp; done)) (by (simp; done))) rfl (fun _ _ h => by exact h.drop 5) (fun tv1 _ => ?_)
             skip; refine GE.knowD (fun w hw => (Rd.owned 4 rfl (v := tv1) w hw).one_) (fun hotv => ?_)
             refine GE.t 13 (by as_aux_lemma => kernel_rfl) rfl rfl rfl (og_runs (rv_field rfl)) rfl (fun _ _ => ?_); refine GE.t0 14 (by as_aux_lemma => kernel_rfl) rfl rfl rfl (og_st5 rfl rfl rfl (cells_one (by assumption)) rfl (by repeat (first | rfl | refine one_cons (by assumption) ?_)) (.succ (.succ (.succ (.succ (.succ (.succ (.succ (.zero (.cons .nil)))))))))) (fun _ _ => ?_); refine GE.done (by as_aux_lemma => kernel_rfl) ?_
           rotate_left
         rotate_left 3
         focus
           refine GE.pickOp rfl rfl rfl (og_lit rfl (.cons rfl (.cons rfl .nil)) rfl rfl rfl rfl rfl rfl) rfl (fun _ _ h => by exact h.drop 3) (fun vl _ => ?_); refine GE.any (rs := [3, 5]) (by as_aux_lemma => kernel_rfl) (by simp) ?_; refine List.forall_mem_cons.2 ⟨?_, List.forall_mem_cons.2 ⟨?_, fun _ h => absurd h List.not_mem_nil⟩⟩
           focus
             (refine GE.pickOp rfl rfl rfl (og_callM2 rfl rfl rfl (l1Below_any _ (by assumption) (by assumption)).toF) rfl (fun _ _ h => by exact h.drop 3) ?_; rintro ⟨xr, xi, xh⟩ ⟨⟨hx0, hx1⟩, hxi⟩; try dsimp only)
             refine GE.ol 5 (by as_aux_lemma => kernel_rfl) rfl rfl (og_lit rfl (.cons rfl (.cons rfl (.cons rfl .nil))) rfl rfl rfl rfl rfl rfl) rfl (fun _ _ h => by exact h.drop 4) (fun vl _ => ?_)
             (refine GE.ol 6 (by as_aux_lemma => kernel_rfl) rfl rfl (og_callM1 rfl rfl rfl (l1PickInt_any (by exact Rd.owned 0 rfl) rfl rfl (by assumption) (by assumption))) rfl (fun _ _ h => by exact h.drop 4) ?_; rintro ⟨xr, xi, xh⟩ ⟨hxm, hxi⟩; try dsimp only)
             (refine GE.ol 9 (by as_aux_lemma => kernel_rfl) rfl rfl (og_callM0 rfl rfl rfl (l1PickInt_any (by exact Rd.owned 1 rfl) rfl rfl (by assumption) (by assumption))) rfl (fun _ _ h => by exact h.drop 4) ?_; rintro ⟨xr, xi, xh⟩ ⟨hxm, hxi⟩; try dsimp only)
             refine GE.ol 10 (by as_aux_lemma => kernel_rfl) rfl rfl (og_runs (rv_build2 rfl (.cons rfl (.cons rfl (.cons rfl (.cons rfl (.cons rfl (.cons rfl (.cons rfl .nil))))))) (.cons rfl rfl (.zero (.cons .nil)) (.cons rfl rfl (.succ (.zero (.cons .nil))) (.cons rfl rfl (.succ (.succ (.zero (.cons .nil)))) (.cons rfl rfl (.succ (.succ (.succ (.zero (.cons .nil))))) (.cons rfl rfl (.succ (.succ (.succ (.succ (.zero (.cons .nil)))))) (.cons rfl rfl (.succ (.succ (.succ (.succ (.succ (.zero (.cons .nil))))))) (.cons rfl rfl (.succ (.succ (.succ (.succ (.succ (.succ (.zero (.cons .nil)))))))) .nil))))))))) rfl (fun _ _ h => by exact h.drop 4) (fun _ _ => ?_); refine GE.ol 11 (by as_aux_lemma => kernel_rfl) rfl rfl (og_lit rfl (.cons rfl .nil) rfl rfl rfl rfl rfl rfl) rfl (fun _ _ h => by exact h.drop 5) (fun vl _ => ?_); refine GE.ol 12 (by as_aux_lemma => kernel_rfl) rfl rfl (og_app4 rfl rfl rfl (by exact Rd.owned 0 rfl) rfl rfl (by (simp; done)) (by (simp; done))) rfl (fun _ _ h => by exact h.drop 5) (fun tv1 _ => ?_)
             skip; refine GE.knowD (fun w hw => (Rd.owned 4 rfl (v := tv1) w hw).one_) (fun hotv => ?_)
             refine GE.t 13 (by as_aux_lemma => kernel_rfl) rfl rfl rfl (og_runs (rv_field rfl)) rfl (fun _ _ => ?_); refine GE.t0 14 (by as_aux_lemma => kernel_rfl) rfl rfl rfl (og_st5 rfl rfl rfl (cells_one (by assumption)) rfl (by repeat (first | rfl | refine one_cons (by assumption) ?_)) (.succ (.succ (.succ (.succ (.succ (.succ (.succ (.zero (.cons .nil)))))))))) (fun _ _ => ?_); refine GE.done (by as_aux_lemma => kernel_rfl) ?_
           rotate_left
           focus
             refine GE.pickOp rfl rfl rfl (og_lit rfl (.cons rfl (.cons rfl (.cons rfl .nil))) rfl rfl rfl rfl rfl rfl) rfl (fun _ _ h => by exact h.drop 4) (fun vl _ => ?_)
             (refine GE.ol 3 (by as_aux_lemma => kernel_rfl) rfl rfl (og_callM3 rfl rfl rfl (l1Below_any _ (by assumption) (by assumption)).toF) rfl (fun _ _ h => by exact h.drop 4) ?_; rintro ⟨xr, xi, xh⟩ ⟨⟨hx0, hx1⟩, hxi⟩; try dsimp only)
             (refine GE.ol 6 (by as_aux_lemma => kernel_rfl) rfl rfl (og_callM0 rfl rfl rfl (l1PickInt_any (by exact Rd.owned 0 rfl) rfl rfl (by assumption) (by assumption))) rfl (fun _ _ h => by exact h.drop 4) ?_; rintro ⟨xr, xi, xh⟩ ⟨hxm, hxi⟩; try dsimp only)
             (refine GE.ol 9 (by as_aux_lemma => kernel_rfl) rfl rfl (og_callM0 rfl rfl rfl (l1PickInt_any (by exact Rd.owned 1 rfl) rfl rfl (by assumption) (by assumption))) rfl (fun _ _ h => by exact h.drop 4) ?_; rintro ⟨xr, xi, xh⟩ ⟨hxm, hxi⟩; try dsimp only)
             refine GE.ol 10 (by as_aux_lemma => kernel_rfl) rfl rfl (og_runs (rv_build2 rfl (.cons rfl (.cons rfl (.cons rfl (.cons rfl (.cons rfl (.cons rfl (.cons rfl .nil))))))) (.cons rfl rfl (.zero (.cons .nil)) (.cons rfl rfl (.succ (.zero (.cons .nil))) (.cons rfl rfl (.succ (.succ (.zero (.cons .nil)))) (.cons rfl rfl (.succ (.succ (.succ (.zero (.cons .nil))))) (.cons rfl rfl (.succ (.succ (.succ (.succ (.zero (.cons .nil)))))) (.cons rfl rfl (.succ (.succ (.succ (.succ (.succ (.zero (.cons .nil))))))) (.cons rfl rfl (.succ (.succ (.succ (.succ (.succ (.succ (.zero (.cons .nil)))))))) .nil))))))))) rfl (fun _ _ h => by exact h.drop 4) (fun _ _ => ?_); refine GE.ol 11 (by as_aux_lemma => kernel_rfl) rfl rfl (og_lit rfl (.cons rfl .nil) rfl rfl rfl rfl rfl rfl) rfl (fun _ _ h => by exact h.drop 5) (fun vl _ => ?_); refine GE.ol 12 (by as_aux_lemma => kernel_rfl) rfl rfl (og_app4 rfl rfl rfl (by exact Rd.owned 0 rfl) rfl rfl (by (simp; done)) (by (simp; done))) rfl (fun _ _ h => by exact h.drop 5) (fun tv1 _ => ?_)
             skip; refine GE.knowD (fun w hw => (Rd.owned 4 rfl (v := tv1) w hw).one_) (fun hotv => ?_)
             refine GE.t 13 (by as_aux_lemma => kernel_rfl) rfl rfl rfl (og_runs (rv_field rfl)) rfl (fun _ _ => ?_); refine GE.t0 14 (by as_aux_lemma => kernel_rfl) rfl rfl rfl (og_st5 rfl rfl rfl (cells_one (by assumption)) rfl (by repeat (first | rfl | refine one_cons (by assumption) ?_)) (.succ (.succ (.succ (.succ (.succ (.succ (.succ (.zero (.cons .nil)))))))))) (fun _ _ => ?_); refine GE.done (by as_aux_lemma => kernel_rfl) ?_
           rotate_left
         rotate_left 2
         all_goals
          refine G.frontB1 cb rfl ?_; refine G.frontR4 tv1 rfl ?_; refine G.frontB5 bk3 rfl ?_
          (refine G.keep3D 3 rfl ?_; refine G.cutEnd (tv1, ⟨_, _, _, _, _, _, _⟩, _, _) 0 rfl (.cons rfl (.cons rfl (.cons rfl (.nil)))) ?_ ?_)
          · exact trivial
          · exact ⟨⟨hotv, TyFar.one (Int.le_of_lt (by decide : (7 : Int) < 20)) (pick_cost (by assumption))⟩, by assumption⟩
       rintro ⟨tv1, ty1, xi, xh⟩ ⟨⟨hotv, hty1⟩, hxi⟩
       dsimp only at hotv hty1 hxi ⊢
       refine G.thenN (G.seq (G.region (G.v (rv_move rfl) rfl ?_)))
       (refine G.op (og_callM2 rfl rfl rfl (l1Below_any _ (by assumption) (by assumption)).toF) rfl ?_; rintro ⟨xr, xi, xh⟩ ⟨⟨hx0, hx1⟩, hxi⟩; try dsimp only)
       obtain ⟨n, rfl⟩ := Int.eq_ofNat_of_zero_le hx0; have hn4 : n ≤ 4 := (by omega)
       refine G.v (rv_assign rfl) rfl (G.done (G.thenN (G.seq (G.seq (G.region (G.v (rv_assign rfl) rfl (G.done (G.thenN (G.block ?_)))))))))
       -- loop 2: turned [7], kept [0, 2, 3, 6]
       refine G.frontB0 cb rfl ?_; refine G.frontR2 tv1 rfl ?_; refine G.frontB2 bk3 rfl ?_; refine G.loopK (ι := Nat × Value × List TypeM × Nat × Int) (ks := [0, 2, 3, 6]) (fun x => [(7, .int .i64 (x.1 : Int))]) (fun x => [.blk bk3 37 [.int .i64 wy, .int .i64 pw, .int .i64 pd, .int .i64 ph, .int .i64 pg, .int .i64 (1 + (cl : Int)), pv, x.2.1, .int .i64 7, .slice none 0 0], .row x.2.1 82 7 (x.2.2.1.map TypeM.cells), .blk cb 184 [v, .int .i64 x.2.2.2.1, .int .i64 x.2.2.2.2]]) (fun x => (x.1 ≤ n ∧ x.2.2.1.length = x.1 + 1 ∧ TyFar x.2.2.1) ∧ x.2.2.2.1 ≤ l.length) (fun x => n - x.1) (0, tv1, [ty1], _, _) (.cons rfl (.cons rfl (.cons rfl (.cons rfl (.nil))))) rfl ?_ ?_ ?_
       · exact ⟨⟨Nat.zero_le _, rfl, hty1⟩, by assumption⟩
       · exact ⟨rfl, trivial⟩
       rintro ⟨k, tv, ty, xi, xh⟩ ⟨⟨hk, htl, htf⟩, hxi⟩
       dsimp only at hk htl htf hxi ⊢
       have htl3 : (ty.map TypeM.cells).length = ty.length := by simp
       by_cases hlt2 : k < n
       case' neg => (refine G.heap (fun w hh => hh.nilRow 106 7) ?_)
       all_goals
        refine G.seq (G.seq (G.region (G.v (rv_move rfl) rfl (G.v (rv_move rfl) rfl (G.v (rv_lss rfl rfl) rfl (G.done (G.thenN ?_))))))); refine G.cond rfl (fun hc => ?_) (fun hc => ?_)
        · try exact Bool.noConfusion hc
          all_goals
           try replace hc := of_decide_eq_true hc
           try (exfalso; omega)
           all_goals
            refine G.skip (G.thenN (G.seq (G.block ?_))); refine G.frontB2 cb rfl ?_; refine G.frontR2 tv rfl ?_; refine G.drawD2 [24, 25] rfl ?_; refine GE.q2 0 rfl (by as_aux_lemma => kernel_rfl) rfl (qg_runs (rv_field rfl)) (fun _ h => by exact h.drop 2) rfl ?_; refine GE.q2 1 rfl (by as_aux_lemma => kernel_rfl) rfl (qg_runs (rv_load1 0 rfl rfl rfl)) (fun _ h => by exact h.drop 2) rfl ?_; refine GE.q2 2 rfl (by as_aux_lemma => kernel_rfl) rfl (qg_runs (rv_move rfl)) (fun _ h => by exact h.drop 2) rfl ?_; refine GE.q2 3 rfl (by as_aux_lemma => kernel_rfl) rfl (qg_runs (rv_addB rfl rfl (by omega) (by omega))) (fun _ h => by exact h.drop 2) rfl ?_; refine GE.q2 4 rfl (by as_aux_lemma => kernel_rfl) rfl (qg_runs (rv_move rfl)) (fun _ h => by exact h.drop 2) rfl ?_; refine GE.q2 7 rfl (by as_aux_lemma => kernel_rfl) rfl (qg_runs (rv_move rfl)) (fun _ h => by exact h.drop 2) rfl ?_; refine GE.q2 10 rfl (by as_aux_lemma => kernel_rfl) rfl (qg_runs (rv_move rfl)) (fun _ h => by exact h.drop 2) rfl ?_; refine GE.q2 13 rfl (by as_aux_lemma => kernel_rfl) rfl (qg_runs (rv_move rfl)) (fun _ h => by exact h.drop 2) rfl ?_; refine GE.q2 15 rfl (by as_aux_lemma => kernel_rfl) rfl (qg_runs (rv_move rfl)) (fun _ h => by exact h.drop 2) rfl ?_; refine GE.q2 18 rfl (by as_aux_lemma => kernel_rfl) rfl (qg_runs (rv_move rfl)) (fun _ h => by exact h.drop 2) rfl ?_
            (refine GE.ol 5 (by as_aux_lemma => kernel_rfl) rfl rfl (og_callM1 rfl rfl rfl (l1Below_any _ (by assumption) (by assumption)).toF) rfl (fun _ _ h => by exact h.drop 2) ?_; rintro ⟨xr, xi, xh⟩ ⟨⟨hx0, hx1⟩, hxi⟩; try dsimp only)
            refine GE.q2 6 rfl (by as_aux_lemma => kernel_rfl) rfl (qg_runs (rv_addB rfl rfl (by omega) (by omega))) (fun _ h => by exact h.drop 2) rfl ?_
            (refine GE.ol 8 (by as_aux_lemma => kernel_rfl) rfl rfl (og_callM0 rfl rfl rfl (l1Below_any _ (by assumption) (by assumption)).toF) rfl (fun _ _ h => by exact h.drop 2) ?_; rintro ⟨xr, xi, xh⟩ ⟨⟨hx0, hx1⟩, hxi⟩; try dsimp only)
            refine GE.q2 9 rfl (by as_aux_lemma => kernel_rfl) rfl (qg_runs (rv_addB rfl rfl (by omega) (by omega))) (fun _ h => by exact h.drop 2) rfl ?_
            (refine GE.ol 11 (by as_aux_lemma => kernel_rfl) rfl rfl (og_callM0 rfl rfl rfl (l1Below_any _ (by assumption) (by assumption)).toF) rfl (fun _ _ h => by exact h.drop 2) ?_; rintro ⟨xr, xi, xh⟩ ⟨⟨hx0, hx1⟩, hxi⟩; try dsimp only)
            refine GE.q2 12 rfl (by as_aux_lemma => kernel_rfl) rfl (qg_runs (rv_addB rfl rfl (by omega) (by omega))) (fun _ h => by exact h.drop 2) rfl ?_
            (refine GE.ol 14 (by as_aux_lemma => kernel_rfl) rfl rfl (og_callM0 rfl rfl rfl (l1Below_any _ (by assumption) (by assumption)).toF) rfl (fun _ _ h => by exact h.drop 2) ?_; rintro ⟨xr, xi, xh⟩ ⟨⟨hx0, hx1⟩, hxi⟩; try dsimp only)
            (refine GE.ol 16 (by as_aux_lemma => kernel_rfl) rfl rfl (og_callM0 rfl rfl rfl (l1Below_any _ (by assumption) (by assumption)).toF) rfl (fun _ _ h => by exact h.drop 2) ?_; rintro ⟨xr, xi, xh⟩ ⟨⟨hx0, hx1⟩, hxi⟩; try dsimp only)
            refine GE.q2 17 rfl (by as_aux_lemma => kernel_rfl) rfl (qg_runs (rv_addB rfl rfl (by omega) (by omega))) (fun _ h => by exact h.drop 2) rfl ?_
            (refine GE.ol 19 (by as_aux_lemma => kernel_rfl) rfl rfl (og_callM0 rfl rfl rfl (l1Below_any _ (by assumption) (by assumption)).toF) rfl (fun _ _ h => by exact h.drop 2) ?_; rintro ⟨xr, xi, xh⟩ ⟨⟨hx0, hx1⟩, hxi⟩; try dsimp only)
            refine GE.ol 20 (by as_aux_lemma => kernel_rfl) rfl rfl (og_runs (rv_addB rfl rfl (by omega) (by omega))) rfl (fun _ _ h => by exact h.drop 2) (fun _ _ => ?_); refine GE.ol 21 (by as_aux_lemma => kernel_rfl) rfl rfl (og_runs (rv_build2 rfl (.cons rfl (.cons rfl (.cons rfl (.cons rfl (.cons rfl (.cons rfl (.cons rfl .nil))))))) (.cons rfl rfl (.zero (.cons .nil)) (.cons rfl rfl (.succ (.zero (.cons .nil))) (.cons rfl rfl (.succ (.succ (.zero (.cons .nil)))) (.cons rfl rfl (.succ (.succ (.succ (.zero (.cons .nil))))) (.cons rfl rfl (.succ (.succ (.succ (.succ (.zero (.cons .nil)))))) (.cons rfl rfl (.succ (.succ (.succ (.succ (.succ (.zero (.cons .nil))))))) (.cons rfl rfl (.succ (.succ (.succ (.succ (.succ (.succ (.zero (.cons .nil)))))))) .nil))))))))) rfl (fun _ _ h => by exact h.drop 2) (fun _ _ => ?_); refine GE.ol 22 (by as_aux_lemma => kernel_rfl) rfl rfl (og_lit rfl (.cons rfl .nil) rfl rfl rfl rfl rfl rfl) rfl (fun _ _ h => by exact h.drop 3) (fun vl _ => ?_); refine GE.ol 23 (by as_aux_lemma => kernel_rfl) rfl rfl (og_app2 rfl rfl rfl (by exact Rd.owned 0 rfl) rfl rfl (by (simp; omega)) (by (simp; omega))) rfl (fun _ _ h => by exact h.drop 3) (fun tv2 _ => ?_)
            skip; refine GE.knowD (fun w hw => (Rd.owned 2 rfl (v := tv2) w hw).one_) (fun hotv2 => ?_)
            refine GE.t 24 (by as_aux_lemma => kernel_rfl) rfl rfl rfl (og_runs (rv_field rfl)) rfl (fun _ _ => ?_); refine GE.t0 25 (by as_aux_lemma => kernel_rfl) rfl rfl rfl (og_st3 rfl rfl rfl (cells_one (by assumption)) rfl (by repeat (first | rfl | refine one_cons (by assumption) ?_)) (.succ (.succ (.succ (.succ (.succ (.succ (.succ (.zero (.cons .nil)))))))))) (fun _ _ => ?_); refine GE.done (by as_aux_lemma => kernel_rfl) ?_; refine G.inN (G.thenN (G.region (G.v (rv_move rfl) rfl ?_))); refine G.v (rv_incr rfl rfl (by omega)) rfl ?_; refine G.v (rv_assign rfl) rfl (G.done ?_); refine G.frontB1 cb rfl ?_; refine G.frontR2 tv2 rfl ?_; refine G.frontB3 bk3 rfl ?_
            (refine G.keep3D 1 rfl ?_; refine G.backK (k + 1, tv2, ty ++ [⟨_, _, _, _, _, _, _⟩], _, _) 0 (three_eqD rfl (congrArg (fun z => Ch.row tv2 82 7 z) (by rw [List.map_append]; rfl)) rfl) (.cons rfl (.cons rfl (.cons rfl (.cons rfl (.nil))))) ?_ ?_ ?_)
            · exact ⟨rfl, trivial⟩
            · exact ⟨⟨by dsimp only; omega, by simp; omega, htf.snoc (by dsimp only; omega) (by dsimp only; omega)⟩, by assumption⟩
            · dsimp only; omega
        · try exact Bool.noConfusion hc
          all_goals
           try replace hc := of_decide_eq_false hc
           try (exfalso; omega)
           all_goals
            refine G.exit (G.thenX (G.thenX (G.inX (G.thenN (G.seq (G.region (G.v (rv_move rfl) rfl ?_)))))))
            (refine G.op (og_callM3 rfl rfl rfl (l1Below_any _ (by assumption) (by assumption)).toF) rfl ?_; rintro ⟨xr, xi, xh⟩ ⟨⟨hx0, hx1⟩, hxi⟩; try dsimp only)
            obtain ⟨mn, rfl⟩ := Int.eq_ofNat_of_zero_le hx0; have hmn5 : mn ≤ 5 := (by omega)
            refine G.v (rv_assign rfl) rfl (G.done (G.thenN (G.seq (G.region (G.v (rv_assign rfl) rfl (G.done (G.thenN (G.seq (G.seq (G.region (G.v (rv_assign rfl) rfl ?_))))))))))); refine G.done (G.thenN (G.block ?_))
            -- loop 3: turned [9, 10], kept [0, 2, 3, 8]
            refine G.frontB0 cb rfl ?_; refine G.frontR1 (Value.slice none 0 0) rfl ?_; refine G.frontB2 bk3 rfl ?_; refine G.loopK (ι := Nat × Int × Value × List ItemM × Nat × Int) (ks := [0, 2, 3, 8]) (fun x => [(9, .int .i64 x.2.1), (10, .int .i64 (x.1 : Int))]) (fun x => [.blk bk3 37 [.int .i64 wy, .int .i64 pw, .int .i64 pd, .int .i64 ph, .int .i64 pg, .int .i64 (1 + (cl : Int)), pv, tv, .int .i64 7, x.2.2.1], .row x.2.2.1 106 7 (x.2.2.2.1.map ItemM.cells), .blk cb 184 [v, .int .i64 x.2.2.2.2.1, .int .i64 x.2.2.2.2.2]]) (fun x => (x.1 ≤ mn ∧ x.2.2.2.1.length ≤ x.1 ∧ 0 ≤ x.2.1 ∧ x.2.1 ≤ 12) ∧ x.2.2.2.2.1 ≤ l.length) (fun x => mn - x.1) (0, 0, .slice none 0 0, [], _, _) (.cons rfl (.cons rfl (.cons rfl (.cons rfl (.nil))))) rfl ?_ ?_ ?_
            · exact ⟨⟨Nat.zero_le _, Nat.le_refl _, Int.le_refl _, by dsimp only; omega⟩, by assumption⟩
            · exact ⟨rfl, rfl, trivial⟩
            rintro ⟨j, un, iv, its, xi, xh⟩ ⟨⟨hj, hil, hun0, hun⟩, hxi⟩
            dsimp only at hj hil hun0 hun hxi ⊢
            have hil3 : (its.map ItemM.cells).length = its.length := by simp
            all_goals
             refine G.seq (G.seq (G.region (G.v (rv_move rfl) rfl (G.v (rv_move rfl) rfl (G.v (rv_lss rfl rfl) rfl (G.done (G.thenN ?_))))))); refine G.cond rfl (fun hc => ?_) (fun hc => ?_)
             · try exact Bool.noConfusion hc
               all_goals
                try replace hc := of_decide_eq_true hc
                try (exfalso; contradiction)
                all_goals
                 refine G.skip (G.thenN (G.seq (G.block (G.seq ?_)))); refine G.frontB2 cb rfl ?_; refine G.cut (ι := Nat × (Int × Int × Int × Int × Int × Int × Int) × Nat × Int) (ks := [0, 2, 3, 8, 9, 10]) (fun x => [(11, pB x.1 0)]) (fun x => [.blk x.1 106 [.int .i64 x.2.1.1, .int .i64 x.2.1.2.1, .int .i64 x.2.1.2.2.1, .int .i64 x.2.1.2.2.2.1, .int .i64 x.2.1.2.2.2.2.1, .int .i64 x.2.1.2.2.2.2.2.1, .int .i64 x.2.1.2.2.2.2.2.2], .blk cb 184 [v, .int .i64 x.2.2.1, .int .i64 x.2.2.2]]) (fun x => (1 ≤ x.2.1.2.2.2.2.2.2 ∧ x.2.1.2.2.2.2.2.2 ≤ 4) ∧ x.2.2.1 ≤ l.length) 1 (.cons rfl (.cons rfl (.cons rfl (.cons rfl (.cons rfl (.cons rfl (.nil))))))) rfl ?_ ?_
                 focus
                   refine G.frontB0 cb rfl ?_; refine G.drawD1 [23] rfl ?_; refine GE.q2 0 rfl (by as_aux_lemma => kernel_rfl) rfl (qg_runs (rv_move rfl)) (fun _ h => by exact h.drop 1) rfl ?_; refine GE.q2 1 rfl (by as_aux_lemma => kernel_rfl) rfl (qg_runs (rv_mulB rfl rfl (by omega) (by omega))) (fun _ h => by exact h.drop 1) rfl ?_; refine GE.q2 2 rfl (by as_aux_lemma => kernel_rfl) rfl (qg_runs (rv_move rfl)) (fun _ h => by exact h.drop 1) rfl ?_; refine GE.q2 5 rfl (by as_aux_lemma => kernel_rfl) rfl (qg_runs (rv_move rfl)) (fun _ h => by exact h.drop 1) rfl ?_; refine GE.q2 8 rfl (by as_aux_lemma => kernel_rfl) rfl (qg_runs (rv_move rfl)) (fun _ h => by exact h.drop 1) rfl ?_; refine GE.q2 11 rfl (by as_aux_lemma => kernel_rfl) rfl (qg_runs (rv_move rfl)) (fun _ h => by exact h.drop 1) rfl ?_; refine GE.q2 14 rfl (by as_aux_lemma => kernel_rfl) rfl (qg_runs (rv_move rfl)) (fun _ h => by exact h.drop 1) rfl ?_; refine GE.q2 15 rfl (by as_aux_lemma => kernel_rfl) rfl (qg_runs (rv_field rfl)) (fun _ h => by exact h.drop 1) rfl ?_; refine GE.q2 16 rfl (by as_aux_lemma => kernel_rfl) rfl (qg_runs (rv_load1 0 rfl rfl rfl)) (fun _ h => by exact h.drop 1) rfl ?_; refine GE.q2 18 rfl (by as_aux_lemma => kernel_rfl) rfl (qg_runs (rv_move rfl)) (fun _ h => by exact h.drop 1) rfl ?_; refine GE.any (rs := [3, 22]) (by as_aux_lemma => kernel_rfl) (by simp) ?_; refine List.forall_mem_cons.2 ⟨?_, List.forall_mem_cons.2 ⟨?_, fun _ h => absurd h List.not_mem_nil⟩⟩
                   focus
                     (refine GE.pickOp rfl rfl rfl (og_callM0 rfl rfl rfl (l1Below_any _ (by assumption) (by assumption)).toF) rfl (fun _ _ h => by exact h.drop 1) ?_; rintro ⟨xr, xi, xh⟩ ⟨⟨hx0, hx1⟩, hxi⟩; try dsimp only)
                     refine GE.q2 4 rfl (by as_aux_lemma => kernel_rfl) rfl (qg_runs (rv_addB rfl rfl (by omega) (by omega))) (fun _ h => by exact h.drop 1) rfl ?_; refine GE.any (rs := [6, 22]) (by as_aux_lemma => kernel_rfl) (by simp) ?_; refine List.forall_mem_cons.2 ⟨?_, List.forall_mem_cons.2 ⟨?_, fun _ h => absurd h List.not_mem_nil⟩⟩
                     focus
                       (refine GE.pickOp rfl rfl rfl (og_callM0 rfl rfl rfl (l1Below_any _ (by assumption) (by assumption)).toF) rfl (fun _ _ h => by exact h.drop 1) ?_; rintro ⟨xr, xi, xh⟩ ⟨⟨hx0, hx1⟩, hxi⟩; try dsimp only)
                       refine GE.q2 7 rfl (by as_aux_lemma => kernel_rfl) rfl (qg_runs (rv_addB rfl rfl (by omega) (by omega))) (fun _ h => by exact h.drop 1) rfl ?_; refine GE.any (rs := [9, 22]) (by as_aux_lemma => kernel_rfl) (by simp) ?_; refine List.forall_mem_cons.2 ⟨?_, List.forall_mem_cons.2 ⟨?_, fun _ h => absurd h List.not_mem_nil⟩⟩
                       focus
                         (refine GE.pickOp rfl rfl rfl (og_callM0 rfl rfl rfl (l1Below_any _ (by assumption) (by assumption)).toF) rfl (fun _ _ h => by exact h.drop 1) ?_; rintro ⟨xr, xi, xh⟩ ⟨⟨hx0, hx1⟩, hxi⟩; try dsimp only)
                         refine GE.q2 10 rfl (by as_aux_lemma => kernel_rfl) rfl (qg_runs (rv_addB rfl rfl (by omega) (by omega))) (fun _ h => by exact h.drop 1) rfl ?_; refine GE.any (rs := [12, 22]) (by as_aux_lemma => kernel_rfl) (by simp) ?_; refine List.forall_mem_cons.2 ⟨?_, List.forall_mem_cons.2 ⟨?_, fun _ h => absurd h List.not_mem_nil⟩⟩
                         focus
                           (refine GE.pickOp rfl rfl rfl (og_callM0 rfl rfl rfl (l1Below_any _ (by assumption) (by assumption)).toF) rfl (fun _ _ h => by exact h.drop 1) ?_; rintro ⟨xr, xi, xh⟩ ⟨⟨hx0, hx1⟩, hxi⟩; try dsimp only)
                           refine GE.q2 13 rfl (by as_aux_lemma => kernel_rfl) rfl (qg_runs (rv_addB rfl rfl (by omega) (by omega))) (fun _ h => by exact h.drop 1) rfl ?_; refine GE.any (rs := [17, 22]) (by as_aux_lemma => kernel_rfl) (by simp) ?_; refine List.forall_mem_cons.2 ⟨?_, List.forall_mem_cons.2 ⟨?_, fun _ h => absurd h List.not_mem_nil⟩⟩
                           focus
                             (refine GE.pickOp rfl rfl rfl (og_callM0 rfl rfl rfl (l1Below_any _ (by assumption) (by assumption)).toF) rfl (fun _ _ h => by exact h.drop 1) ?_; rintro ⟨xr, xi, xh⟩ ⟨⟨hx0, hx1⟩, hxi⟩; try dsimp only)
                             refine GE.any (rs := [19, 22]) (by as_aux_lemma => kernel_rfl) (by simp) ?_; refine List.forall_mem_cons.2 ⟨?_, List.forall_mem_cons.2 ⟨?_, fun _ h => absurd h List.not_mem_nil⟩⟩
                             focus
                               (refine GE.pickOp rfl rfl rfl (og_callM0 rfl rfl rfl (l1Below_any _ (by assumption) (by assumption)).toF) rfl (fun _ _ h => by exact h.drop 1) ?_; rintro ⟨ct, xi, xh⟩ ⟨⟨hct0, hct1⟩, hxi⟩; try dsimp only)
                               refine GE.q2 20 rfl (by as_aux_lemma => kernel_rfl) rfl (qg_runs (rv_addB rfl rfl (by omega) (by omega))) (fun _ h => by exact h.drop 1) rfl ?_; refine GE.q2 21 rfl (by as_aux_lemma => kernel_rfl) rfl (qg_runs (rv_build2 rfl (.cons rfl (.cons rfl (.cons rfl (.cons rfl (.cons rfl (.cons rfl (.cons rfl .nil))))))) (.cons rfl rfl (.zero (.cons .nil)) (.cons rfl rfl (.succ (.zero (.cons .nil))) (.cons rfl rfl (.succ (.succ (.zero (.cons .nil)))) (.cons rfl rfl (.succ (.succ (.succ (.zero (.cons .nil))))) (.cons rfl rfl (.succ (.succ (.succ (.succ (.zero (.cons .nil)))))) (.cons rfl rfl (.succ (.succ (.succ (.succ (.succ (.zero (.cons .nil))))))) (.cons rfl rfl (.succ (.succ (.succ (.succ (.succ (.succ (.zero (.cons .nil)))))))) .nil))))))))) (fun _ h => by exact h.drop 1) rfl ?_; refine GE.ol 22 (by as_aux_lemma => kernel_rfl) rfl rfl (og_alloc) rfl (fun _ _ h => by exact h.drop 2) (fun bk11 _ => ?_); refine GE.t0 23 (by as_aux_lemma => kernel_rfl) rfl rfl rfl (og_st0 rfl rfl rfl rfl rfl rfl (.zero (.cons (.cons (.cons (.cons (.cons (.cons (.cons .nil))))))))) (fun _ _ => ?_); refine GE.done (by as_aux_lemma => kernel_rfl) ?_
                             rotate_left
                             focus
                               refine GE.pickOp rfl rfl rfl (og_alloc) rfl (fun _ _ h => by exact h.drop 2) (fun bk11 _ => ?_)
                               (refine GE.ol 19 (by as_aux_lemma => kernel_rfl) rfl rfl (og_callM1 rfl rfl rfl (l1Below_any _ (by assumption) (by assumption)).toF) rfl (fun _ _ h => by exact h.drop 2) ?_; rintro ⟨ct, xi, xh⟩ ⟨⟨hct0, hct1⟩, hxi⟩; try dsimp only)
                               refine GE.ol 20 (by as_aux_lemma => kernel_rfl) rfl rfl (og_runs (rv_addB rfl rfl (by omega) (by omega))) rfl (fun _ _ h => by exact h.drop 2) (fun _ _ => ?_); refine GE.ol 21 (by as_aux_lemma => kernel_rfl) rfl rfl (og_runs (rv_build2 rfl (.cons rfl (.cons rfl (.cons rfl (.cons rfl (.cons rfl (.cons rfl (.cons rfl .nil))))))) (.cons rfl rfl (.zero (.cons .nil)) (.cons rfl rfl (.succ (.zero (.cons .nil))) (.cons rfl rfl (.succ (.succ (.zero (.cons .nil)))) (.cons rfl rfl (.succ (.succ (.succ (.zero (.cons .nil))))) (.cons rfl rfl (.succ (.succ (.succ (.succ (.zero (.cons .nil)))))) (.cons rfl rfl (.succ (.succ (.succ (.succ (.succ (.zero (.cons .nil))))))) (.cons rfl rfl (.succ (.succ (.succ (.succ (.succ (.succ (.zero (.cons .nil)))))))) .nil))))))))) rfl (fun _ _ h => by exact h.drop 2) (fun _ _ => ?_); refine GE.t0 23 (by as_aux_lemma => kernel_rfl) rfl rfl rfl (og_st1 rfl rfl rfl rfl rfl rfl (.zero (.cons (.cons (.cons (.cons (.cons (.cons (.cons .nil))))))))) (fun _ _ => ?_); refine GE.done (by as_aux_lemma => kernel_rfl) ?_
                             rotate_left
                           rotate_left 2
                           focus
                             refine GE.pickOp rfl rfl rfl (og_alloc) rfl (fun _ _ h => by exact h.drop 2) (fun bk11 _ => ?_)
                             (refine GE.ol 17 (by as_aux_lemma => kernel_rfl) rfl rfl (og_callM1 rfl rfl rfl (l1Below_any _ (by assumption) (by assumption)).toF) rfl (fun _ _ h => by exact h.drop 2) ?_; rintro ⟨xr, xi, xh⟩ ⟨⟨hx0, hx1⟩, hxi⟩; try dsimp only)
                             (refine GE.ol 19 (by as_aux_lemma => kernel_rfl) rfl rfl (og_callM0 rfl rfl rfl (l1Below_any _ (by assumption) (by assumption)).toF) rfl (fun _ _ h => by exact h.drop 2) ?_; rintro ⟨ct, xi, xh⟩ ⟨⟨hct0, hct1⟩, hxi⟩; try dsimp only)
                             refine GE.ol 20 (by as_aux_lemma => kernel_rfl) rfl rfl (og_runs (rv_addB rfl rfl (by omega) (by omega))) rfl (fun _ _ h => by exact h.drop 2) (fun _ _ => ?_); refine GE.ol 21 (by as_aux_lemma => kernel_rfl) rfl rfl (og_runs (rv_build2 rfl (.cons rfl (.cons rfl (.cons rfl (.cons rfl (.cons rfl (.cons rfl (.cons rfl .nil))))))) (.cons rfl rfl (.zero (.cons .nil)) (.cons rfl rfl (.succ (.zero (.cons .nil))) (.cons rfl rfl (.succ (.succ (.zero (.cons .nil)))) (.cons rfl rfl (.succ (.succ (.succ (.zero (.cons .nil))))) (.cons rfl rfl (.succ (.succ (.succ (.succ (.zero (.cons .nil)))))) (.cons rfl rfl (.succ (.succ (.succ (.succ (.succ (.zero (.cons .nil))))))) (.cons rfl rfl (.succ (.succ (.succ (.succ (.succ (.succ (.zero (.cons .nil)))))))) .nil))))))))) rfl (fun _ _ h => by exact h.drop 2) (fun _ _ => ?_); refine GE.t0 23 (by as_aux_lemma => kernel_rfl) rfl rfl rfl (og_st1 rfl rfl rfl rfl rfl rfl (.zero (.cons (.cons (.cons (.cons (.cons (.cons (.cons .nil))))))))) (fun _ _ => ?_); refine GE.done (by as_aux_lemma => kernel_rfl) ?_
                           rotate_left
                         rotate_left 3
                         focus
                           refine GE.pickOp rfl rfl rfl (og_alloc) rfl (fun _ _ h => by exact h.drop 2) (fun bk11 _ => ?_)
                           (refine GE.ol 12 (by as_aux_lemma => kernel_rfl) rfl rfl (og_callM1 rfl rfl rfl (l1Below_any _ (by assumption) (by assumption)).toF) rfl (fun _ _ h => by exact h.drop 2) ?_; rintro ⟨xr, xi, xh⟩ ⟨⟨hx0, hx1⟩, hxi⟩; try dsimp only)
                           refine GE.q2 13 rfl (by as_aux_lemma => kernel_rfl) rfl (qg_runs (rv_addB rfl rfl (by omega) (by omega))) (fun _ h => by exact h.drop 2) rfl ?_
                           (refine GE.ol 17 (by as_aux_lemma => kernel_rfl) rfl rfl (og_callM0 rfl rfl rfl (l1Below_any _ (by assumption) (by assumption)).toF) rfl (fun _ _ h => by exact h.drop 2) ?_; rintro ⟨xr, xi, xh⟩ ⟨⟨hx0, hx1⟩, hxi⟩; try dsimp only)
                           (refine GE.ol 19 (by as_aux_lemma => kernel_rfl) rfl rfl (og_callM0 rfl rfl rfl (l1Below_any _ (by assumption) (by assumption)).toF) rfl (fun _ _ h => by exact h.drop 2) ?_; rintro ⟨ct, xi, xh⟩ ⟨⟨hct0, hct1⟩, hxi⟩; try dsimp only)
                           refine GE.ol 20 (by as_aux_lemma => kernel_rfl) rfl rfl (og_runs (rv_addB rfl rfl (by omega) (by omega))) rfl (fun _ _ h => by exact h.drop 2) (fun _ _ => ?_); refine GE.ol 21 (by as_aux_lemma => kernel_rfl) rfl rfl (og_runs (rv_build2 rfl (.cons rfl (.cons rfl (.cons rfl (.cons rfl (.cons rfl (.cons rfl (.cons rfl .nil))))))) (.cons rfl rfl (.zero (.cons .nil)) (.cons rfl rfl (.succ (.zero (.cons .nil))) (.cons rfl rfl (.succ (.succ (.zero (.cons .nil)))) (.cons rfl rfl (.succ (.succ (.succ (.zero (.cons .nil))))) (.cons rfl rfl (.succ (.succ (.succ (.succ (.zero (.cons .nil)))))) (.cons rfl rfl (.succ (.succ (.succ (.succ (.succ (.zero (.cons .nil))))))) (.cons rfl rfl (.succ (.succ (.succ (.succ (.succ (.succ (.zero (.cons .nil)))))))) .nil))))))))) rfl (fun _ _ h => by exact h.drop 2) (fun _ _ => ?_); refine GE.t0 23 (by as_aux_lemma => kernel_rfl) rfl rfl rfl (og_st1 rfl rfl rfl rfl rfl rfl (.zero (.cons (.cons (.cons (.cons (.cons (.cons (.cons .nil))))))))) (fun _ _ => ?_); refine GE.done (by as_aux_lemma => kernel_rfl) ?_
                         rotate_left
                       rotate_left 4
                       focus
                         refine GE.pickOp rfl rfl rfl (og_alloc) rfl (fun _ _ h => by exact h.drop 2) (fun bk11 _ => ?_)
                         (refine GE.ol 9 (by as_aux_lemma => kernel_rfl) rfl rfl (og_callM1 rfl rfl rfl (l1Below_any _ (by assumption) (by assumption)).toF) rfl (fun _ _ h => by exact h.drop 2) ?_; rintro ⟨xr, xi, xh⟩ ⟨⟨hx0, hx1⟩, hxi⟩; try dsimp only)
                         refine GE.q2 10 rfl (by as_aux_lemma => kernel_rfl) rfl (qg_runs (rv_addB rfl rfl (by omega) (by omega))) (fun _ h => by exact h.drop 2) rfl ?_
                         (refine GE.ol 12 (by as_aux_lemma => kernel_rfl) rfl rfl (og_callM0 rfl rfl rfl (l1Below_any _ (by assumption) (by assumption)).toF) rfl (fun _ _ h => by exact h.drop 2) ?_; rintro ⟨xr, xi, xh⟩ ⟨⟨hx0, hx1⟩, hxi⟩; try dsimp only)
                         refine GE.q2 13 rfl (by as_aux_lemma => kernel_rfl) rfl (qg_runs (rv_addB rfl rfl (by omega) (by omega))) (fun _ h => by exact h.drop 2) rfl ?_
                         (refine GE.ol 17 (by as_aux_lemma => kernel_rfl) rfl rfl (og_callM0 rfl rfl rfl (l1Below_any _ (by assumption) (by assumption)).toF) rfl (fun _ _ h => by exact h.drop 2) ?_; rintro ⟨xr, xi, xh⟩ ⟨⟨hx0, hx1⟩, hxi⟩; try dsimp only)
                         (refine GE.ol 19 (by as_aux_lemma => kernel_rfl) rfl rfl (og_callM0 rfl rfl rfl (l1Below_any _ (by assumption) (by assumption)).toF) rfl (fun _ _ h => by exact h.drop 2) ?_; rintro ⟨ct, xi, xh⟩ ⟨⟨hct0, hct1⟩, hxi⟩; try dsimp only)
                         refine GE.ol 20 (by as_aux_lemma => kernel_rfl) rfl rfl (og_runs (rv_addB rfl rfl (by omega) (by omega))) rfl (fun _ _ h => by exact h.drop 2) (fun _ _ => ?_); refine GE.ol 21 (by as_aux_lemma => kernel_rfl) rfl rfl (og_runs (rv_build2 rfl (.cons rfl (.cons rfl (.cons rfl (.cons rfl (.cons rfl (.cons rfl (.cons rfl .nil))))))) (.cons rfl rfl (.zero (.cons .nil)) (.cons rfl rfl (.succ (.zero (.cons .nil))) (.cons rfl rfl (.succ (.succ (.zero (.cons .nil)))) (.cons rfl rfl (.succ (.succ (.succ (.zero (.cons .nil))))) (.cons rfl rfl (.succ (.succ (.succ (.succ (.zero (.cons .nil)))))) (.cons rfl rfl (.succ (.succ (.succ (.succ (.succ (.zero (.cons .nil))))))) (.cons rfl rfl (.succ (.succ (.succ (.succ (.succ (.succ (.zero (.cons .nil)))))))) .nil))))))))) rfl (fun _ _ h => by exact h.drop 2) (fun _ _ => ?_); refine GE.t0 23 (by as_aux_lemma => kernel_rfl) rfl rfl rfl (og_st1 rfl rfl rfl rfl rfl rfl (.zero (.cons (.cons (.cons (.cons (.cons (.cons (.cons .nil))))))))) (fun _ _ => ?_); refine GE.done (by as_aux_lemma => kernel_rfl) ?_
                       rotate_left
                     rotate_left 5
                     focus
                       refine GE.pickOp rfl rfl rfl (og_alloc) rfl (fun _ _ h => by exact h.drop 2) (fun bk11 _ => ?_)
                       (refine GE.ol 6 (by as_aux_lemma => kernel_rfl) rfl rfl (og_callM1 rfl rfl rfl (l1Below_any _ (by assumption) (by assumption)).toF) rfl (fun _ _ h => by exact h.drop 2) ?_; rintro ⟨xr, xi, xh⟩ ⟨⟨hx0, hx1⟩, hxi⟩; try dsimp only)
                       refine GE.q2 7 rfl (by as_aux_lemma => kernel_rfl) rfl (qg_runs (rv_addB rfl rfl (by omega) (by omega))) (fun _ h => by exact h.drop 2) rfl ?_
                       (refine GE.ol 9 (by as_aux_lemma => kernel_rfl) rfl rfl (og_callM0 rfl rfl rfl (l1Below_any _ (by assumption) (by assumption)).toF) rfl (fun _ _ h => by exact h.drop 2) ?_; rintro ⟨xr, xi, xh⟩ ⟨⟨hx0, hx1⟩, hxi⟩; try dsimp only)
                       refine GE.q2 10 rfl (by as_aux_lemma => kernel_rfl) rfl (qg_runs (rv_addB rfl rfl (by omega) (by omega))) (fun _ h => by exact h.drop 2) rfl ?_
                       (refine GE.ol 12 (by as_aux_lemma => kernel_rfl) rfl rfl (og_callM0 rfl rfl rfl (l1Below_any _ (by assumption) (by assumption)).toF) rfl (fun _ _ h => by exact h.drop 2) ?_; rintro ⟨xr, xi, xh⟩ ⟨⟨hx0, hx1⟩, hxi⟩; try dsimp only)
                       refine GE.q2 13 rfl (by as_aux_lemma => kernel_rfl) rfl (qg_runs (rv_addB rfl rfl (by omega) (by omega))) (fun _ h => by exact h.drop 2) rfl ?_
                       (refine GE.ol 17 (by as_aux_lemma => kernel_rfl) rfl rfl (og_callM0 rfl rfl rfl (l1Below_any _ (by assumption) (by assumption)).toF) rfl (fun _ _ h => by exact h.drop 2) ?_; rintro ⟨xr, xi, xh⟩ ⟨⟨hx0, hx1⟩, hxi⟩; try dsimp only)
                       (refine GE.ol 19 (by as_aux_lemma => kernel_rfl) rfl rfl (og_callM0 rfl rfl rfl (l1Below_any _ (by assumption) (by assumption)).toF) rfl (fun _ _ h => by exact h.drop 2) ?_; rintro ⟨ct, xi, xh⟩ ⟨⟨hct0, hct1⟩, hxi⟩; try dsimp only)
                       refine GE.ol 20 (by as_aux_lemma => kernel_rfl) rfl rfl (og_runs (rv_addB rfl rfl (by omega) (by omega))) rfl (fun _ _ h => by exact h.drop 2) (fun _ _ => ?_); refine GE.ol 21 (by as_aux_lemma => kernel_rfl) rfl rfl (og_runs (rv_build2 rfl (.cons rfl (.cons rfl (.cons rfl (.cons rfl (.cons rfl (.cons rfl (.cons rfl .nil))))))) (.cons rfl rfl (.zero (.cons .nil)) (.cons rfl rfl (.succ (.zero (.cons .nil))) (.cons rfl rfl (.succ (.succ (.zero (.cons .nil)))) (.cons rfl rfl (.succ (.succ (.succ (.zero (.cons .nil))))) (.cons rfl rfl (.succ (.succ (.succ (.succ (.zero (.cons .nil)))))) (.cons rfl rfl (.succ (.succ (.succ (.succ (.succ (.zero (.cons .nil))))))) (.cons rfl rfl (.succ (.succ (.succ (.succ (.succ (.succ (.zero (.cons .nil)))))))) .nil))))))))) rfl (fun _ _ h => by exact h.drop 2) (fun _ _ => ?_); refine GE.t0 23 (by as_aux_lemma => kernel_rfl) rfl rfl rfl (og_st1 rfl rfl rfl rfl rfl rfl (.zero (.cons (.cons (.cons (.cons (.cons (.cons (.cons .nil))))))))) (fun _ _ => ?_); refine GE.done (by as_aux_lemma => kernel_rfl) ?_
                     rotate_left
                   rotate_left 6
                   focus
                     refine GE.pickOp rfl rfl rfl (og_alloc) rfl (fun _ _ h => by exact h.drop 2) (fun bk11 _ => ?_)
                     (refine GE.ol 3 (by as_aux_lemma => kernel_rfl) rfl rfl (og_callM1 rfl rfl rfl (l1Below_any _ (by assumption) (by assumption)).toF) rfl (fun _ _ h => by exact h.drop 2) ?_; rintro ⟨xr, xi, xh⟩ ⟨⟨hx0, hx1⟩, hxi⟩; try dsimp only)
                     refine GE.q2 4 rfl (by as_aux_lemma => kernel_rfl) rfl (qg_runs (rv_addB rfl rfl (by omega) (by omega))) (fun _ h => by exact h.drop 2) rfl ?_
                     (refine GE.ol 6 (by as_aux_lemma => kernel_rfl) rfl rfl (og_callM0 rfl rfl rfl (l1Below_any _ (by assumption) (by assumption)).toF) rfl (fun _ _ h => by exact h.drop 2) ?_; rintro ⟨xr, xi, xh⟩ ⟨⟨hx0, hx1⟩, hxi⟩; try dsimp only)
                     refine GE.q2 7 rfl (by as_aux_lemma => kernel_rfl) rfl (qg_runs (rv_addB rfl rfl (by omega) (by omega))) (fun _ h => by exact h.drop 2) rfl ?_
                     (refine GE.ol 9 (by as_aux_lemma => kernel_rfl) rfl rfl (og_callM0 rfl rfl rfl (l1Below_any _ (by assumption) (by assumption)).toF) rfl (fun _ _ h => by exact h.drop 2) ?_; rintro ⟨xr, xi, xh⟩ ⟨⟨hx0, hx1⟩, hxi⟩; try dsimp only)
                     refine GE.q2 10 rfl (by as_aux_lemma => kernel_rfl) rfl (qg_runs (rv_addB rfl rfl (by omega) (by omega))) (fun _ h => by exact h.drop 2) rfl ?_
                     (refine GE.ol 12 (by as_aux_lemma => kernel_rfl) rfl rfl (og_callM0 rfl rfl rfl (l1Below_any _ (by assumption) (by assumption)).toF) rfl (fun _ _ h => by exact h.drop 2) ?_; rintro ⟨xr, xi, xh⟩ ⟨⟨hx0, hx1⟩, hxi⟩; try dsimp only)
                     refine GE.q2 13 rfl (by as_aux_lemma => kernel_rfl) rfl (qg_runs (rv_addB rfl rfl (by omega) (by omega))) (fun _ h => by exact h.drop 2) rfl ?_
                     (refine GE.ol 17 (by as_aux_lemma => kernel_rfl) rfl rfl (og_callM0 rfl rfl rfl (l1Below_any _ (by assumption) (by assumption)).toF) rfl (fun _ _ h => by exact h.drop 2) ?_; rintro ⟨xr, xi, xh⟩ ⟨⟨hx0, hx1⟩, hxi⟩; try dsimp only)
                     (refine GE.ol 19 (by as_aux_lemma => kernel_rfl) rfl rfl (og_callM0 rfl rfl rfl (l1Below_any _ (by assumption) (by assumption)).toF) rfl (fun _ _ h => by exact h.drop 2) ?_; rintro ⟨ct, xi, xh⟩ ⟨⟨hct0, hct1⟩, hxi⟩; try dsimp only)
                     refine GE.ol 20 (by as_aux_lemma => kernel_rfl) rfl rfl (og_runs (rv_addB rfl rfl (by omega) (by omega))) rfl (fun _ _ h => by exact h.drop 2) (fun _ _ => ?_); refine GE.ol 21 (by as_aux_lemma => kernel_rfl) rfl rfl (og_runs (rv_build2 rfl (.cons rfl (.cons rfl (.cons rfl (.cons rfl (.cons rfl (.cons rfl (.cons rfl .nil))))))) (.cons rfl rfl (.zero (.cons .nil)) (.cons rfl rfl (.succ (.zero (.cons .nil))) (.cons rfl rfl (.succ (.succ (.zero (.cons .nil)))) (.cons rfl rfl (.succ (.succ (.succ (.zero (.cons .nil))))) (.cons rfl rfl (.succ (.succ (.succ (.succ (.zero (.cons .nil)))))) (.cons rfl rfl (.succ (.succ (.succ (.succ (.succ (.zero (.cons .nil))))))) (.cons rfl rfl (.succ (.succ (.succ (.succ (.succ (.succ (.zero (.cons .nil)))))))) .nil))))))))) rfl (fun _ _ h => by exact h.drop 2) (fun _ _ => ?_); refine GE.t0 23 (by as_aux_lemma => kernel_rfl) rfl rfl rfl (og_st1 rfl rfl rfl rfl rfl rfl (.zero (.cons (.cons (.cons (.cons (.cons (.cons (.cons .nil))))))))) (fun _ _ => ?_); refine GE.done (by as_aux_lemma => kernel_rfl) ?_
                   rotate_left
                   all_goals
                    (first | refine G.frontB0 cb rfl ?_ | refine G.frontB1 cb rfl ?_)
                    refine G.frontB1 bk11 rfl ?_; refine G.cutEnd (_, (_, _, _, _, _, _, _), _, _) 0 rfl (.cons rfl (.cons rfl (.cons rfl (.cons rfl (.cons rfl (.cons rfl (.nil))))))) ?_ ?_
                    · exact ⟨rfl, trivial⟩
                    · exact ⟨⟨by dsimp only; omega, by dsimp only; omega⟩, by assumption⟩
                 rintro ⟨bk4, ⟨xid, xw, xh2, xd, xg, xc, ct⟩, xi, xh⟩ ⟨⟨hct0, hct1⟩, hxi⟩
                 dsimp only at hct0 hct1 hxi ⊢
                 refine G.thenN (G.seq (G.seq (G.region (G.v (rv_move rfl) rfl ?_))))
                 (refine G.op (og_callM1 rfl rfl rfl (l1Once_any _ (by assumption) (by assumption)).toF) rfl ?_; rintro ⟨xr, xi, xh⟩ hxi; try dsimp only)
                 refine G.done (G.thenN ?_); refine G.cond rfl (fun hc => ?_) (fun hc => ?_)
                 · try exact Bool.noConfusion hc
                   all_goals
                    try replace hc := of_decide_eq_true hc
                    try (exfalso; contradiction)
                    all_goals
                     refine G.seq (G.region (G.v (rv_field rfl) rfl ?_)); refine G.op0 (og_st1 rfl rfl rfl rfl rfl rfl (.succ (.zero (.cons .nil)))) (fun _ _ => ?_); refine G.done (G.thenN (G.seq (G.region (G.v (rv_field rfl) rfl ?_)))); refine G.op0 (og_st1 rfl rfl rfl rfl rfl rfl (.succ (.succ (.zero (.cons .nil))))) (fun _ _ => ?_); refine G.done (G.thenN (G.region (G.v (rv_move rfl) rfl ?_)))
                     (refine G.op (og_callM0 rfl rfl rfl (l1Below_any _ (by assumption) (by assumption)).toF) rfl ?_; rintro ⟨xr, xi, xh⟩ ⟨⟨hx0, hx1⟩, hxi⟩; try dsimp only)
                     refine G.v (rv_addB rfl rfl (by omega) (by omega)) rfl ?_; refine G.v (rv_field rfl) rfl ?_; refine G.op0 (og_st1 rfl rfl rfl rfl rfl rfl (.succ (.succ (.succ (.zero (.cons .nil)))))) (fun _ _ => ?_); refine G.done (G.thenN (G.seq (G.region (G.v (rv_move rfl) rfl (G.v (rv_field rfl) rfl (G.v (rv_load1 1 rfl rfl rfl) rfl ?_)))))); refine G.v (rv_addB rfl rfl (by omega) (by omega)) rfl ?_; refine G.v (rv_leq rfl rfl) rfl (G.done (G.thenN ?_)); refine G.cond rfl (fun hc => ?_) (fun hc => ?_)
                     · try exact Bool.noConfusion hc
                       all_goals
                        try replace hc := of_decide_eq_true hc
                        try (exfalso; contradiction)
                        all_goals
                         refine G.seq (G.region (G.v (rv_field rfl) rfl (G.v (rv_load1 2 rfl rfl rfl) rfl (G.v (rv_loadW 1 rfl rfl rfl) rfl ?_)))); refine G.op (og_lit rfl (.cons rfl .nil) rfl rfl rfl rfl rfl rfl) rfl (fun vx _ => ?_); refine G.op (og_app4 rfl rfl rfl (by exact Rd.owned 0 rfl) rfl rfl (by (simp; omega)) (by (simp; omega))) rfl (fun iv2 _ => ?_); refine G.know (fun w hw => by exact (Rd.owned 4 rfl (v := iv2) w hw).one_) (fun hoiv2 => ?_); refine G.v (rv_field rfl) rfl ?_; refine G.op0 (og_st3 rfl rfl rfl (cells_one (by assumption)) rfl (by repeat (first | rfl | refine one_cons (by assumption) ?_)) (.succ (.succ (.succ (.succ (.succ (.succ (.succ (.succ (.succ (.zero (.cons .nil)))))))))))) (fun _ _ => ?_); refine G.done (G.thenN (G.region (G.v (rv_move rfl) rfl (G.v (rv_field rfl) rfl (G.v (rv_load1 2 rfl rfl rfl) rfl ?_))))); refine G.v (rv_addB rfl rfl (by omega) (by omega)) rfl ?_; refine G.v (rv_assign rfl) rfl (G.done (G.inN (G.thenN (G.region (G.v (rv_move rfl) rfl ?_))))); refine G.v (rv_incr rfl rfl (by omega)) rfl ?_; refine G.v (rv_assign rfl) rfl (G.done ?_); refine G.frontB1 cb rfl ?_; refine G.frontR4 iv2 rfl ?_; refine G.frontB4 bk3 rfl ?_
                         (refine G.keep3D 2 rfl ?_; refine G.backK (j + 1, un + ct, iv2, its ++ [⟨_, _, _, _, _, _, _⟩], _, _) 0 (by (exact three_eqD rfl (congrArg (fun z => Ch.row iv2 106 7 z) (by rw [List.map_append]; rfl)) rfl)) (.cons rfl (.cons rfl (.cons rfl (.cons rfl (.nil))))) ?_ ?_ ?_)
                         · exact ⟨rfl, rfl, trivial⟩
                         · exact ⟨⟨by dsimp only; omega, by simp; omega, by dsimp only; omega, by dsimp only; omega⟩, by assumption⟩
                         · dsimp only; omega
                     · try exact Bool.noConfusion hc
                       all_goals
                        try replace hc := of_decide_eq_false hc
                        try (exfalso; contradiction)
                        all_goals
                         refine G.skip (G.inN (G.thenN (G.region (G.v (rv_move rfl) rfl ?_)))); refine G.v (rv_incr rfl rfl (by omega)) rfl ?_; refine G.v (rv_assign rfl) rfl (G.done ?_); refine G.frontB0 cb rfl ?_; refine G.frontR3 iv rfl ?_; refine G.frontB3 bk3 rfl ?_
                         (refine G.keep3D 1 rfl ?_; refine G.backK (j + 1, un, iv, its, _, _) 0 (by exact three_eqD rfl rfl rfl) (.cons rfl (.cons rfl (.cons rfl (.cons rfl (.nil))))) ?_ ?_ ?_)
                         · exact ⟨rfl, rfl, trivial⟩
                         · exact ⟨⟨by dsimp only; omega, by simp; omega, by dsimp only; omega, by dsimp only; omega⟩, by assumption⟩
                         · dsimp only; omega
                 · try exact Bool.noConfusion hc
                   all_goals
                    try replace hc := of_decide_eq_false hc
                    try (exfalso; contradiction)
                    all_goals
                     refine G.skip (G.thenN (G.seq (G.region (G.v (rv_move rfl) rfl (G.v (rv_field rfl) rfl (G.v (rv_load1 1 rfl rfl rfl) rfl ?_)))))); refine G.v (rv_addB rfl rfl (by omega) (by omega)) rfl ?_; refine G.v (rv_leq rfl rfl) rfl (G.done (G.thenN ?_)); refine G.cond rfl (fun hc => ?_) (fun hc => ?_)
                     · try exact Bool.noConfusion hc
                       all_goals
                        try replace hc := of_decide_eq_true hc
                        try (exfalso; contradiction)
                        all_goals
                         refine G.seq (G.region (G.v (rv_field rfl) rfl (G.v (rv_load1 2 rfl rfl rfl) rfl (G.v (rv_loadW 1 rfl rfl rfl) rfl ?_)))); refine G.op (og_lit rfl (.cons rfl .nil) rfl rfl rfl rfl rfl rfl) rfl (fun vx _ => ?_); refine G.op (og_app4 rfl rfl rfl (by exact Rd.owned 0 rfl) rfl rfl (by (simp; omega)) (by (simp; omega))) rfl (fun iv2 _ => ?_); refine G.know (fun w hw => by exact (Rd.owned 4 rfl (v := iv2) w hw).one_) (fun hoiv2 => ?_); refine G.v (rv_field rfl) rfl ?_; refine G.op0 (og_st3 rfl rfl rfl (cells_one (by assumption)) rfl (by repeat (first | rfl | refine one_cons (by assumption) ?_)) (.succ (.succ (.succ (.succ (.succ (.succ (.succ (.succ (.succ (.zero (.cons .nil)))))))))))) (fun _ _ => ?_); refine G.done (G.thenN (G.region (G.v (rv_move rfl) rfl (G.v (rv_field rfl) rfl (G.v (rv_load1 2 rfl rfl rfl) rfl ?_))))); refine G.v (rv_addB rfl rfl (by omega) (by omega)) rfl ?_; refine G.v (rv_assign rfl) rfl (G.done (G.inN (G.thenN (G.region (G.v (rv_move rfl) rfl ?_))))); refine G.v (rv_incr rfl rfl (by omega)) rfl ?_; refine G.v (rv_assign rfl) rfl (G.done ?_); refine G.frontB1 cb rfl ?_; refine G.frontR4 iv2 rfl ?_; refine G.frontB4 bk3 rfl ?_
                         (refine G.keep3D 2 rfl ?_; refine G.backK (j + 1, un + ct, iv2, its ++ [⟨_, _, _, _, _, _, _⟩], _, _) 0 (by (exact three_eqD rfl (congrArg (fun z => Ch.row iv2 106 7 z) (by rw [List.map_append]; rfl)) rfl)) (.cons rfl (.cons rfl (.cons rfl (.cons rfl (.nil))))) ?_ ?_ ?_)
                         · exact ⟨rfl, rfl, trivial⟩
                         · exact ⟨⟨by dsimp only; omega, by simp; omega, by dsimp only; omega, by dsimp only; omega⟩, by assumption⟩
                         · dsimp only; omega
                     · try exact Bool.noConfusion hc
                       all_goals
                        try replace hc := of_decide_eq_false hc
                        try (exfalso; contradiction)
                        all_goals
                         refine G.skip (G.inN (G.thenN (G.region (G.v (rv_move rfl) rfl ?_)))); refine G.v (rv_incr rfl rfl (by omega)) rfl ?_; refine G.v (rv_assign rfl) rfl (G.done ?_); refine G.frontB0 cb rfl ?_; refine G.frontR3 iv rfl ?_; refine G.frontB3 bk3 rfl ?_
                         (refine G.keep3D 1 rfl ?_; refine G.backK (j + 1, un, iv, its, _, _) 0 (by exact three_eqD rfl rfl rfl) (.cons rfl (.cons rfl (.cons rfl (.cons rfl (.nil))))) ?_ ?_ ?_)
                         · exact ⟨rfl, rfl, trivial⟩
                         · exact ⟨⟨by dsimp only; omega, by simp; omega, by dsimp only; omega, by dsimp only; omega⟩, by assumption⟩
                         · dsimp only; omega
             · try exact Bool.noConfusion hc
               all_goals
                try replace hc := of_decide_eq_false hc
                try (exfalso; contradiction)
                all_goals
                 refine G.exit (G.thenX (G.thenX (G.inX (G.thenN (G.seq (G.region (G.v (rv_loadW 0 rfl rfl rfl) rfl ?_))))))); refine G.know (fun w hw => by exact (Rd.owned 1 rfl (v := iv) w hw).one_) (fun hoiv => ?_); refine G.know (fun w hw => by exact (Rd.owned 3 rfl (v := tv) w hw).one_) (fun hotv => ?_); refine G.know (fun w hw => by exact (Rd.owned 4 rfl (v := pv) w hw).one_) (fun hopv => ?_); refine G.op0 (og_st9 rfl rfl rfl rfl rfl (by repeat (first | rfl | refine one_cons (by first | rfl | assumption) ?_)) (.zero (.cons (.cons (.cons (.cons (.cons (.cons (.cons (.cons (.cons (.cons .nil)))))))))))) (fun _ _ => ?_); refine G.done (G.thenN (G.ret ?_)); refine G.frontB2 cb rfl ?_; refine G.frontR4 pv rfl ?_; refine G.frontR4 tv rfl ?_; refine G.frontR4 iv rfl ?_
                 (exact G.retFc ((⟨wy, ⟨pw, pd, ph, pg⟩, 1 + (cl : Int), ps, ty, 7, its⟩, pv, tv, iv), xi, xh) ⟨⟨⟨hopv, hotv, hoiv⟩, by dsimp only; omega, by dsimp only; omega, by dsimp only; omega, by dsimp only; omega, htf⟩, hxi⟩ 9 rfl rfl rfl rfl rfl (fun w hh => hh.sublist (by repeat (first | exact List.Sublist.refl _ | refine List.Sublist.cons_cons _ ?_ | refine List.Sublist.cons _ ?_))))
end Go.Proofs.YtibkggjbkgdnkaaGreat

/-
  An order that the draws hand out, with one thing turned.
-/
namespace Go.Proofs.YtibkggjbkgdnkaaGreat
open Go.RowKit
attribute [local irreducible] Go.wpList Go.Code.wp Go.Exit.then Go.Exit.inBlock Go.bodyPost Go.Calls pE pB G RunsV FnV Fn FnM
set_option maxRecDepth 100000
set_option maxHeartbeats 4000000
theorem TyFar.set {l : List TypeM} {k : Nat} {t s : TypeM} (h : TyFar l) (ht : l[k]? = some t) (a : s.id = t.id) (b : s.cost = t.cost) : TyFar (l.set k s) := fun u hu => by
  rcases List.mem_or_eq_of_mem_set hu with hu | hu
  · exact h u hu
  · have := h t (List.mem_of_getElem? ht)
    rw [hu, a, b]; exact this
theorem TyFar.head {l : List TypeM} {t s : TypeM} (h : TyFar (t :: l)) (a : s.id = t.id) (b : s.cost = t.cost) : TyFar (s :: l) := TyFar.set (k := 0) h rfl a b
theorem TyFar.dbl {l : List TypeM} {t : TypeM} (h : TyFar (t :: l)) : TyFar (t :: l ++ [t]) := h.snoc (h t List.mem_cons_self).1 (h t List.mem_cons_self).2
theorem TyFar.nil : TyFar [] := fun _ h => absurd h List.not_mem_nil
theorem l2Draw_any {w0 : World} {v : Value} {l : List Int} {cb i : Nat} {h : Int} (hv : Rd w0 v 1 (l.map bcell)) (hi : i ≤ l.length) :
    FnM Tryz.prog 243 [pB cb 0] w0 [.blk cb 184 [v, .int .i64 i, .int .i64 h]] (fun x : ((ReqM × Value × Value × Value) × Value × List (List Value)) × Nat × Int => ((x.1.1.2.1.oneCell' = true ∧ x.1.1.2.2.1.oneCell' = true ∧ x.1.1.2.2.2.oneCell' = true) ∧ (∀ w, Rd w x.1.2.1 2 x.1.2.2 → Rd w x.1.1.2.1 2 (x.1.1.1.pairs.map PairM.cells)) ∧ x.1.1.1.pairs.length ≤ 33 ∧ x.1.1.1.types.length ≤ 9 ∧ x.1.1.1.items.length ≤ 7 ∧ TyFar x.1.1.1.types) ∧ x.2.1 ≤ l.length)
      (fun x => .agg (x.1.1.1.cells x.1.1.2.1 x.1.1.2.2.1 x.1.1.2.2.2).toArray) (fun x => [.row x.1.1.2.2.2 106 7 (x.1.1.1.items.map ItemM.cells), .row x.1.1.2.2.1 82 7 (x.1.1.1.types.map TypeM.cells), .row x.1.2.1 145 2 x.1.2.2, .blk cb 184 [v, .int .i64 x.2.1, .int .i64 x.2.2]]) := by
  refine FnM.of (n := 120) Tryz.func243 rfl rfl (fun F => ?_); refine G.seq (G.region ?_); refine G.op (og_alloc) rfl (fun bk2 _ => ?_); refine G.done (G.thenN (G.seq (G.region (G.v (rv_move rfl) rfl ?_))))
  (refine G.frontB1 cb rfl ?_); refine G.op (og_callN0 rfl rfl rfl (l2Right_any (by assumption) (by assumption)).toF) rfl ?_; rintro ⟨⟨r, pv, tv, iv⟩, xi, xh⟩ ⟨⟨⟨hopv, hotv, hoiv⟩, hpl, htl1, htl, hil, htf⟩, hxi⟩; try dsimp only
  obtain ⟨wy, ⟨pw, pd, ph, pg⟩, cl, ps, ty, ms, its⟩ := r; try dsimp only [ReqM.cells] at hpl htl1 htl hil ⊢
  obtain ⟨t0, tr, rfl⟩ : ∃ t0 tr, ty = t0 :: tr := (by cases ty with | nil => exact absurd htl1 (by decide) | cons a b => exact ⟨a, b, rfl⟩)
  have htr : tr.length ≤ 7 := Nat.le_of_succ_le_succ htl; replace hxi : xi ≤ l.length := hxi
  refine G.op (og_alloc) rfl (fun bk3 _ => ?_); refine G.op0 (og_st0 rfl rfl rfl rfl rfl (by repeat (first | rfl | refine one_cons (by first | rfl | assumption) ?_)) (.zero (.cons (.cons (.cons (.cons (.cons (.cons (.cons (.cons (.cons (.cons .nil)))))))))))) (fun _ _ => ?_); refine G.done (G.thenN (G.seq (G.region (G.v (rv_move rfl) rfl ?_)))); refine G.op (og_lit rfl (.cons rfl (.cons rfl (.cons rfl (.cons rfl (.cons rfl (.cons rfl .nil)))))) rfl rfl rfl rfl rfl rfl) rfl (fun vl _ => ?_)
  (refine G.op (og_callM5 rfl rfl rfl (l1PickInt_any (by exact Rd.owned 0 rfl) rfl rfl (by assumption) (by assumption))) rfl ?_; rintro ⟨far, xi, xh⟩ ⟨hxm, hxi⟩; try dsimp only)
  refine G.v (rv_assign rfl) rfl (G.done (G.thenN (G.seq (G.seq (G.region (G.v (rv_move rfl) rfl ?_))))))
  (refine G.op (og_callM0 rfl rfl rfl (l1Below_any _ (by assumption) (by assumption)).toF) rfl ?_; rintro ⟨xr, xi, xh⟩ ⟨⟨hx0, hx1⟩, hxi⟩; try dsimp only)
  refine G.done (G.thenN (G.block (G.seq (G.region (G.v (rv_eql rfl rfl) rfl (G.v (rv_assign rfl) rfl (G.done (G.thenN ?_)))))))); refine G.cond rfl (fun hc => ?_) (fun hc => ?_)
  · try exact Bool.noConfusion hc
    all_goals
     try replace hc := of_decide_eq_true hc
     try (exfalso; contradiction)
     all_goals
      refine G.region (G.v (rv_move rfl) rfl ?_); refine G.op (og_lit rfl (.cons rfl (.cons rfl .nil)) rfl rfl rfl rfl rfl rfl) rfl (fun vl _ => ?_)
      (refine G.op (og_callM1 rfl rfl rfl (l1PickInt_any (by exact Rd.owned 0 rfl) rfl rfl (by assumption) (by assumption))) rfl ?_; rintro ⟨xr, xi, xh⟩ ⟨hxm, hxi⟩; try dsimp only)
      refine G.v (rv_field rfl) rfl ?_; refine G.op0 (og_st3 rfl rfl rfl rfl rfl rfl (.zero (.cons .nil))) (fun _ _ => ?_); refine G.done (G.inN (G.thenN (G.seq (G.region (G.v (rv_loadW 3 rfl rfl rfl) rfl ?_))))); refine G.op0 (og_st7 rfl rfl rfl rfl rfl (by repeat (first | rfl | refine one_cons (by first | rfl | assumption) ?_)) (.zero (.cons (.cons (.cons (.cons (.cons (.cons (.cons (.cons (.cons (.cons .nil)))))))))))) (fun _ _ => ?_); refine G.done (G.thenN (G.ret ?_))
      (refine G.frontB7 bk2 rfl ?_); (refine G.frontB1 cb rfl ?_); (refine G.frontR7 pv rfl ?_); (refine G.frontR7 tv rfl ?_); (refine G.frontR7 iv rfl ?_); refine G.retFc (((⟨_, ⟨_, _, _, _⟩, _, ps, t0 :: tr, _, its⟩, pv, tv, iv), pv, ps.map PairM.cells), xi, xh) ⟨⟨⟨(by assumption), (by assumption), (by assumption)⟩, fun _ h => h, (by (dsimp only at *; omega)), (by (dsimp only at *; omega)), (by (dsimp only at *; omega)), (by exact htf)⟩, hxi⟩ 4 rfl rfl rfl rfl rfl (fun w hh => hh.sublist ?_); (repeat (first | exact List.Sublist.refl _ | refine List.Sublist.cons_cons _ ?_ | refine List.Sublist.cons _ ?_)); done
  · try exact Bool.noConfusion hc
    all_goals
     try replace hc := of_decide_eq_false hc
     try (exfalso; contradiction)
     all_goals
      refine G.seq (G.region (G.v (rv_eql rfl rfl) rfl (G.v (rv_assign rfl) rfl (G.done (G.thenN ?_))))); refine G.cond rfl (fun hc => ?_) (fun hc => ?_)
      · try exact Bool.noConfusion hc
        all_goals
         try replace hc := of_decide_eq_true hc
         try (exfalso; contradiction)
         all_goals
          refine G.region (G.v (rv_move rfl) rfl (G.v (rv_field rfl) rfl (G.v (rv_field rfl) rfl ?_))); refine G.op0 (og_st2 rfl rfl rfl rfl rfl rfl (.succ (.zero (.cons .nil)))) (fun _ _ => ?_); refine G.done (G.inN (G.thenN (G.seq (G.region (G.v (rv_loadW 2 rfl rfl rfl) rfl ?_))))); refine G.op0 (og_st6 rfl rfl rfl rfl rfl (by repeat (first | rfl | refine one_cons (by first | rfl | assumption) ?_)) (.zero (.cons (.cons (.cons (.cons (.cons (.cons (.cons (.cons (.cons (.cons .nil)))))))))))) (fun _ _ => ?_); refine G.done (G.thenN (G.ret ?_))
          (refine G.frontB6 bk2 rfl ?_); (refine G.frontB1 cb rfl ?_); (refine G.frontR6 pv rfl ?_); (refine G.frontR6 tv rfl ?_); (refine G.frontR6 iv rfl ?_); refine G.retFc (((⟨_, ⟨_, _, _, _⟩, _, ps, t0 :: tr, _, its⟩, pv, tv, iv), pv, ps.map PairM.cells), xi, xh) ⟨⟨⟨(by assumption), (by assumption), (by assumption)⟩, fun _ h => h, (by (dsimp only at *; omega)), (by (dsimp only at *; omega)), (by (dsimp only at *; omega)), (by exact htf)⟩, hxi⟩ 4 rfl rfl rfl rfl rfl (fun w hh => hh.sublist ?_); (repeat (first | exact List.Sublist.refl _ | refine List.Sublist.cons_cons _ ?_ | refine List.Sublist.cons _ ?_)); done
      · try exact Bool.noConfusion hc
        all_goals
         try replace hc := of_decide_eq_false hc
         try (exfalso; contradiction)
         all_goals
          refine G.seq (G.region (G.v (rv_eql rfl rfl) rfl (G.v (rv_assign rfl) rfl (G.done (G.thenN ?_))))); refine G.cond rfl (fun hc => ?_) (fun hc => ?_)
          · try exact Bool.noConfusion hc
            all_goals
             try replace hc := of_decide_eq_true hc
             try (exfalso; contradiction)
             all_goals
              refine G.region (G.v (rv_move rfl) rfl (G.v (rv_field rfl) rfl (G.v (rv_field rfl) rfl ?_))); refine G.op0 (og_st2 rfl rfl rfl rfl rfl rfl (.succ (.succ (.succ (.succ (.zero (.cons .nil))))))) (fun _ _ => ?_); refine G.done (G.inN (G.thenN (G.seq (G.region (G.v (rv_loadW 2 rfl rfl rfl) rfl ?_))))); refine G.op0 (og_st6 rfl rfl rfl rfl rfl (by repeat (first | rfl | refine one_cons (by first | rfl | assumption) ?_)) (.zero (.cons (.cons (.cons (.cons (.cons (.cons (.cons (.cons (.cons (.cons .nil)))))))))))) (fun _ _ => ?_); refine G.done (G.thenN (G.ret ?_))
              (refine G.frontB6 bk2 rfl ?_); (refine G.frontB1 cb rfl ?_); (refine G.frontR6 pv rfl ?_); (refine G.frontR6 tv rfl ?_); (refine G.frontR6 iv rfl ?_); refine G.retFc (((⟨_, ⟨_, _, _, _⟩, _, ps, t0 :: tr, _, its⟩, pv, tv, iv), pv, ps.map PairM.cells), xi, xh) ⟨⟨⟨(by assumption), (by assumption), (by assumption)⟩, fun _ h => h, (by (dsimp only at *; omega)), (by (dsimp only at *; omega)), (by (dsimp only at *; omega)), (by exact htf)⟩, hxi⟩ 4 rfl rfl rfl rfl rfl (fun w hh => hh.sublist ?_); (repeat (first | exact List.Sublist.refl _ | refine List.Sublist.cons_cons _ ?_ | refine List.Sublist.cons _ ?_)); done
          · try exact Bool.noConfusion hc
            all_goals
             try replace hc := of_decide_eq_false hc
             try (exfalso; contradiction)
             all_goals
              refine G.seq (G.region (G.v (rv_eql rfl rfl) rfl (G.v (rv_assign rfl) rfl (G.done (G.thenN ?_))))); refine G.cond rfl (fun hc => ?_) (fun hc => ?_)
              · try exact Bool.noConfusion hc
                all_goals
                 try replace hc := of_decide_eq_true hc
                 try (exfalso; contradiction)
                 all_goals
                  refine G.region (G.v (rv_move rfl) rfl ?_); refine G.op (og_lit rfl (.cons rfl (.cons rfl (.cons rfl .nil))) rfl rfl rfl rfl rfl rfl) rfl (fun vl _ => ?_)
                  (refine G.op (og_callM1 rfl rfl rfl (l1PickInt_any (by exact Rd.owned 0 rfl) rfl rfl (by assumption) (by assumption))) rfl ?_; rintro ⟨xr, xi, xh⟩ ⟨hxm, hxi⟩; try dsimp only)
                  refine G.v (rv_field rfl) rfl ?_; refine G.op0 (og_st3 rfl rfl rfl rfl rfl rfl (.succ (.succ (.succ (.succ (.succ (.zero (.cons .nil)))))))) (fun _ _ => ?_); refine G.done (G.inN (G.thenN (G.seq (G.region (G.v (rv_loadW 3 rfl rfl rfl) rfl ?_))))); refine G.op0 (og_st7 rfl rfl rfl rfl rfl (by repeat (first | rfl | refine one_cons (by first | rfl | assumption) ?_)) (.zero (.cons (.cons (.cons (.cons (.cons (.cons (.cons (.cons (.cons (.cons .nil)))))))))))) (fun _ _ => ?_); refine G.done (G.thenN (G.ret ?_))
                  (refine G.frontB7 bk2 rfl ?_); (refine G.frontB1 cb rfl ?_); (refine G.frontR7 pv rfl ?_); (refine G.frontR7 tv rfl ?_); (refine G.frontR7 iv rfl ?_); refine G.retFc (((⟨_, ⟨_, _, _, _⟩, _, ps, t0 :: tr, _, its⟩, pv, tv, iv), pv, ps.map PairM.cells), xi, xh) ⟨⟨⟨(by assumption), (by assumption), (by assumption)⟩, fun _ h => h, (by (dsimp only at *; omega)), (by (dsimp only at *; omega)), (by (dsimp only at *; omega)), (by exact htf)⟩, hxi⟩ 4 rfl rfl rfl rfl rfl (fun w hh => hh.sublist ?_); (repeat (first | exact List.Sublist.refl _ | refine List.Sublist.cons_cons _ ?_ | refine List.Sublist.cons _ ?_)); done
              · try exact Bool.noConfusion hc
                all_goals
                 try replace hc := of_decide_eq_false hc
                 try (exfalso; contradiction)
                 all_goals
                  refine G.seq (G.region (G.v (rv_eql rfl rfl) rfl (G.v (rv_assign rfl) rfl (G.done (G.thenN ?_))))); refine G.cond rfl (fun hc => ?_) (fun hc => ?_)
                  · try exact Bool.noConfusion hc
                    all_goals
                     try replace hc := of_decide_eq_true hc
                     try (exfalso; contradiction)
                     all_goals
                      refine G.frontB0 cb rfl ?_; refine G.frontR5 pv rfl ?_; refine G.drawD2 [10, 11] rfl ?_; refine GE.q2 0 rfl (by as_aux_lemma => kernel_rfl) rfl (qg_runs (rv_field rfl)) (fun _ h => by exact h.drop 2) rfl ?_; refine GE.q2 1 rfl (by as_aux_lemma => kernel_rfl) rfl (qg_runs (rv_load1 1 rfl rfl rfl)) (fun _ h => by exact h.drop 2) rfl ?_; refine GE.q2 2 rfl (by as_aux_lemma => kernel_rfl) rfl (qg_runs (rv_move rfl)) (fun _ h => by exact h.drop 2) rfl ?_; refine GE.q2 5 rfl (by as_aux_lemma => kernel_rfl) rfl (qg_runs (rv_move rfl)) (fun _ h => by exact h.drop 2) rfl ?_
                      (refine GE.ol 3 (by as_aux_lemma => kernel_rfl) rfl rfl (og_callM1 rfl rfl rfl (l1Below_any _ (by assumption) (by assumption)).toF) rfl (fun _ _ h => by exact h.drop 2) ?_; rintro ⟨xa, xi, xh⟩ ⟨⟨hx0, hx1⟩, hxi⟩; try dsimp only)
                      refine GE.q2 4 rfl (by as_aux_lemma => kernel_rfl) rfl (qg_runs (rv_subB rfl rfl (by omega) (by omega))) (fun _ h => by exact h.drop 2) rfl ?_
                      (refine GE.ol 6 (by as_aux_lemma => kernel_rfl) rfl rfl (og_callM0 rfl rfl rfl (l1Below_any _ (by assumption) (by assumption)).toF) rfl (fun _ _ h => by exact h.drop 2) ?_; rintro ⟨xb, xi, xh⟩ ⟨⟨hy0, hy1⟩, hxi⟩; try dsimp only)
                      refine GE.ol 7 (by as_aux_lemma => kernel_rfl) rfl rfl (og_runs (rv_build2 rfl (.cons rfl (.cons rfl .nil)) (.cons rfl rfl (.zero (.cons .nil)) (.cons rfl rfl (.succ (.zero (.cons .nil))) .nil)))) rfl (fun _ _ h => by exact h.drop 2) (fun _ _ => ?_); refine GE.ol 8 (by as_aux_lemma => kernel_rfl) rfl rfl (og_lit rfl (.cons rfl .nil) rfl rfl rfl rfl rfl rfl) rfl (fun _ _ h => by exact h.drop 3) (fun vl _ => ?_); refine GE.ol 9 (by as_aux_lemma => kernel_rfl) rfl rfl (og_app2 rfl rfl rfl (by exact Rd.owned 0 rfl) rfl rfl (by (simp; omega)) (by (simp; omega))) rfl (fun _ _ h => by exact h.drop 3) (fun vp _ => ?_); refine GE.knowD (fun w hw => by exact (Rd.owned 2 rfl (v := vp) w hw).one_) (fun hovp => ?_); refine GE.t 10 (by as_aux_lemma => kernel_rfl) rfl rfl rfl (og_runs (rv_field rfl)) rfl (fun _ _ => ?_); refine GE.t0 11 (by as_aux_lemma => kernel_rfl) rfl rfl rfl (og_st4 rfl rfl rfl (cells_one (by assumption)) rfl (by repeat (first | rfl | refine one_cons (by assumption) ?_)) (.succ (.succ (.succ (.succ (.succ (.succ (.zero (.cons .nil))))))))) (fun _ _ => ?_); refine GE.done (by as_aux_lemma => kernel_rfl) ?_; refine G.inN (G.thenN (G.seq (G.region (G.v (rv_loadW 4 rfl rfl rfl) rfl ?_)))); refine G.op0 (og_st7 rfl rfl rfl rfl rfl (by repeat (first | rfl | refine one_cons (by first | rfl | assumption) ?_)) (.zero (.cons (.cons (.cons (.cons (.cons (.cons (.cons (.cons (.cons (.cons .nil)))))))))))) (fun _ _ => ?_)
                      refine G.done (G.thenN (G.ret ?_))
                      (refine G.frontB7 bk2 rfl ?_); (refine G.frontB2 cb rfl ?_); (refine G.frontR3 vp rfl ?_); refine G.rowEq ((ps ++ [(⟨xa - 1, xb⟩ : PairM)]).map PairM.cells) (by rw [List.map_append]; rfl) rfl ?_; (refine G.frontR7 tv rfl ?_); (refine G.frontR7 iv rfl ?_); refine G.retFc (((⟨_, ⟨_, _, _, _⟩, _, ps ++ [⟨xa - 1, xb⟩], t0 :: tr, _, its⟩, vp, tv, iv), vp, (ps ++ [(⟨xa - 1, xb⟩ : PairM)]).map PairM.cells), xi, xh) ⟨⟨⟨(by assumption), (by assumption), (by assumption)⟩, fun _ h => h, (by (simp only [List.length_cons, List.length_append, List.length_nil, List.length_set, List.length_drop] at *; omega)), (by (dsimp only at *; omega)), (by (dsimp only at *; omega)), (by exact htf)⟩, hxi⟩ 4 rfl rfl rfl rfl rfl (fun w hh => hh.sublist ?_); (repeat (first | exact List.Sublist.refl _ | refine List.Sublist.cons_cons _ ?_ | refine List.Sublist.cons _ ?_)); done
                  · try exact Bool.noConfusion hc
                    all_goals
                     try replace hc := of_decide_eq_false hc
                     try (exfalso; contradiction)
                     all_goals
                      refine G.seq (G.region (G.v (rv_eql rfl rfl) rfl (G.v (rv_assign rfl) rfl (G.done (G.thenN ?_))))); refine G.cond rfl (fun hc => ?_) (fun hc => ?_)
                      · try exact Bool.noConfusion hc
                        all_goals
                         try replace hc := of_decide_eq_true hc
                         try (exfalso; contradiction)
                         all_goals
                          refine G.region (G.v (rv_field rfl) rfl (G.v (rv_load1 2 rfl rfl rfl) rfl (G.v (rv_move rfl) rfl ?_))); refine G.v (rv_indexH rfl rfl (by exact Rd.owned 4 rfl) rfl (by rfl)) rfl ?_; refine G.v (rv_fieldE rfl) rfl ?_; refine G.op0 (og_stE4 rfl rfl rfl (by rfl) rfl rfl rfl rfl (.succ (.succ (.zero (.cons .nil))))) (fun _ _ => ?_); refine G.done (G.inN (G.thenN (G.seq (G.region (G.v (rv_loadW 2 rfl rfl rfl) rfl ?_))))); refine G.op0 (og_st6 rfl rfl rfl rfl rfl (by repeat (first | rfl | refine one_cons (by first | rfl | assumption) ?_)) (.zero (.cons (.cons (.cons (.cons (.cons (.cons (.cons (.cons (.cons (.cons .nil)))))))))))) (fun _ _ => ?_); refine G.done (G.thenN (G.ret ?_))
                          (refine G.frontB6 bk2 rfl ?_); (refine G.frontB1 cb rfl ?_); (refine G.frontR6 pv rfl ?_); (refine G.frontR6 tv rfl ?_); refine G.rowEq (({ t0 with h := far } :: tr).map TypeM.cells) rfl rfl ?_; (refine G.frontR6 iv rfl ?_); refine G.retFc (((⟨_, ⟨_, _, _, _⟩, _, ps, { t0 with h := far } :: tr, _, its⟩, pv, tv, iv), pv, ps.map PairM.cells), xi, xh) ⟨⟨⟨(by assumption), (by assumption), (by assumption)⟩, fun _ h => h, (by (dsimp only at *; omega)), (by (simp only [List.length_cons, List.length_append, List.length_nil, List.length_set, List.length_drop] at *; omega)), (by (dsimp only at *; omega)), (by exact htf.head rfl rfl)⟩, hxi⟩ 4 rfl rfl rfl rfl rfl (fun w hh => hh.sublist ?_); (repeat (first | exact List.Sublist.refl _ | refine List.Sublist.cons_cons _ ?_ | refine List.Sublist.cons _ ?_)); done
                      · try exact Bool.noConfusion hc
                        all_goals
                         try replace hc := of_decide_eq_false hc
                         try (exfalso; contradiction)
                         all_goals
                          refine G.seq (G.region (G.v (rv_eql rfl rfl) rfl (G.v (rv_assign rfl) rfl (G.done (G.thenN ?_))))); refine G.cond rfl (fun hc => ?_) (fun hc => ?_)
                          · try exact Bool.noConfusion hc
                            all_goals
                             try replace hc := of_decide_eq_true hc
                             try (exfalso; contradiction)
                             all_goals
                              refine G.frontB0 cb rfl ?_; refine G.drawD1 [8, 9, 10] rfl ?_; refine GE.q2 0 rfl (by as_aux_lemma => kernel_rfl) rfl (qg_runs (rv_field rfl)) (fun _ h => by exact h.drop 1) rfl ?_; refine GE.q2 1 rfl (by as_aux_lemma => kernel_rfl) rfl (qg_runs (rv_load1 1 rfl rfl rfl)) (fun _ h => by exact h.drop 1) rfl ?_; refine GE.q2 2 rfl (by as_aux_lemma => kernel_rfl) rfl (qg_runs (rv_move rfl)) (fun _ h => by exact h.drop 1) rfl ?_; refine GE.q2 3 rfl (by as_aux_lemma => kernel_rfl) rfl (qg_runs (rv_field rfl)) (fun _ h => by exact h.drop 1) rfl ?_; refine GE.q2 4 rfl (by as_aux_lemma => kernel_rfl) rfl (qg_runs (rv_load1 1 rfl rfl rfl)) (fun _ h => by exact h.drop 1) rfl ?_; refine GE.q2 5 rfl (by as_aux_lemma => kernel_rfl) rfl (qg_runs (rv_len rfl (by exact Rd.owned 3 rfl))) (fun _ h => by exact h.drop 1) rfl ?_; refine GE.q2 7 rfl (by as_aux_lemma => kernel_rfl) rfl (qg_runs (rv_move rfl)) (fun _ h => by exact h.drop 1) rfl ?_
                              (refine GE.ol 6 (by as_aux_lemma => kernel_rfl) rfl rfl (og_callM0 rfl rfl rfl (l1Below_any _ (by assumption) (by assumption)).toF) rfl (fun _ _ h => by exact h.drop 1) ?_; rintro ⟨xr, xi, xh⟩ ⟨⟨hx0, hx1⟩, hxi⟩; try dsimp only)
                              obtain ⟨k, rfl⟩ := Int.eq_ofNat_of_zero_le hx0; obtain ⟨t1, ht1⟩ := get_of_lt (l := t0 :: tr) (k := k) (by dsimp only at *; simp at *; omega); have hel := get_map ht1 TypeM.cells
                              refine GE.t 8 (by as_aux_lemma => kernel_rfl) rfl rfl rfl (og_runs (rv_indexH rfl rfl (by exact Rd.owned 4 rfl) rfl (by assumption))) rfl (fun _ _ => ?_); refine GE.t 9 (by as_aux_lemma => kernel_rfl) rfl rfl rfl (og_runs (rv_fieldE rfl)) rfl (fun _ _ => ?_); refine GE.t0 10 (by as_aux_lemma => kernel_rfl) rfl rfl rfl (og_stE4 rfl rfl rfl (by assumption) rfl rfl rfl rfl (.succ (.succ (.succ (.succ (.succ (.zero (.cons .nil)))))))) (fun _ _ => ?_); refine GE.done (by as_aux_lemma => kernel_rfl) ?_; refine G.inN (G.thenN (G.seq (G.region (G.v (rv_loadW 2 rfl rfl rfl) rfl ?_)))); refine G.op0 (og_st6 rfl rfl rfl rfl rfl (by repeat (first | rfl | refine one_cons (by first | rfl | assumption) ?_)) (.zero (.cons (.cons (.cons (.cons (.cons (.cons (.cons (.cons (.cons (.cons .nil)))))))))))) (fun _ _ => ?_); refine G.done (G.thenN (G.ret ?_))
                              (refine G.frontB6 bk2 rfl ?_); (refine G.frontB1 cb rfl ?_); (refine G.frontR6 pv rfl ?_); (refine G.frontR6 tv rfl ?_); refine G.rowEq (((t0 :: tr).set k { t1 with g := far }).map TypeM.cells) (by rw [List.map_set]; rfl) rfl ?_; (refine G.frontR6 iv rfl ?_); refine G.retFc (((⟨_, ⟨_, _, _, _⟩, _, ps, (t0 :: tr).set k { t1 with g := far }, _, its⟩, pv, tv, iv), pv, ps.map PairM.cells), xi, xh) ⟨⟨⟨(by assumption), (by assumption), (by assumption)⟩, fun _ h => h, (by (dsimp only at *; omega)), (by (simp only [List.length_cons, List.length_append, List.length_nil, List.length_set, List.length_drop] at *; omega)), (by (dsimp only at *; omega)), (by exact htf.set ht1 rfl rfl)⟩, hxi⟩ 4 rfl rfl rfl rfl rfl (fun w hh => hh.sublist ?_); (repeat (first | exact List.Sublist.refl _ | refine List.Sublist.cons_cons _ ?_ | refine List.Sublist.cons _ ?_)); done
                          · try exact Bool.noConfusion hc
                            all_goals
                             try replace hc := of_decide_eq_false hc
                             try (exfalso; contradiction)
                             all_goals
                              refine G.seq (G.region (G.v (rv_eql rfl rfl) rfl (G.v (rv_assign rfl) rfl (G.done (G.thenN ?_))))); refine G.cond rfl (fun hc => ?_) (fun hc => ?_)
                              · try exact Bool.noConfusion hc
                                all_goals
                                 try replace hc := of_decide_eq_true hc
                                 try (exfalso; contradiction)
                                 all_goals
                                  refine G.region (G.v (rv_move rfl) rfl ?_); refine G.op (og_lit rfl (.cons rfl (.cons rfl (.cons rfl .nil))) rfl rfl rfl rfl rfl rfl) rfl (fun vl _ => ?_)
                                  (refine G.op (og_callM1 rfl rfl rfl (l1PickInt_any (by exact Rd.owned 0 rfl) rfl rfl (by assumption) (by assumption))) rfl ?_; rintro ⟨xr, xi, xh⟩ ⟨hxm, hxi⟩; try dsimp only)
                                  refine G.v (rv_field rfl) rfl ?_; refine G.op0 (og_st3 rfl rfl rfl rfl rfl rfl (.succ (.succ (.succ (.succ (.succ (.succ (.succ (.succ (.zero (.cons .nil))))))))))) (fun _ _ => ?_); refine G.done (G.inN (G.thenN (G.seq (G.region (G.v (rv_loadW 3 rfl rfl rfl) rfl ?_))))); refine G.op0 (og_st7 rfl rfl rfl rfl rfl (by repeat (first | rfl | refine one_cons (by first | rfl | assumption) ?_)) (.zero (.cons (.cons (.cons (.cons (.cons (.cons (.cons (.cons (.cons (.cons .nil)))))))))))) (fun _ _ => ?_); refine G.done (G.thenN (G.ret ?_))
                                  (refine G.frontB7 bk2 rfl ?_); (refine G.frontB1 cb rfl ?_); (refine G.frontR7 pv rfl ?_); (refine G.frontR7 tv rfl ?_); (refine G.frontR7 iv rfl ?_); refine G.retFc (((⟨_, ⟨_, _, _, _⟩, _, ps, t0 :: tr, _, its⟩, pv, tv, iv), pv, ps.map PairM.cells), xi, xh) ⟨⟨⟨(by assumption), (by assumption), (by assumption)⟩, fun _ h => h, (by (dsimp only at *; omega)), (by (dsimp only at *; omega)), (by (dsimp only at *; omega)), (by exact htf)⟩, hxi⟩ 4 rfl rfl rfl rfl rfl (fun w hh => hh.sublist ?_); (repeat (first | exact List.Sublist.refl _ | refine List.Sublist.cons_cons _ ?_ | refine List.Sublist.cons _ ?_)); done
                              · try exact Bool.noConfusion hc
                                all_goals
                                 try replace hc := of_decide_eq_false hc
                                 try (exfalso; contradiction)
                                 all_goals
                                  refine G.seq (G.region (G.v (rv_eql rfl rfl) rfl (G.v (rv_assign rfl) rfl (G.done (G.thenN ?_))))); refine G.cond rfl (fun hc => ?_) (fun hc => ?_)
                                  · try exact Bool.noConfusion hc
                                    all_goals
                                     try replace hc := of_decide_eq_true hc
                                     try (exfalso; contradiction)
                                     all_goals
                                      refine G.frontB0 cb rfl ?_; refine G.frontR3 iv rfl ?_; refine G.drawD2 [9, 10] rfl ?_; refine GE.q2 0 rfl (by as_aux_lemma => kernel_rfl) rfl (qg_runs (rv_field rfl)) (fun _ h => by exact h.drop 2) rfl ?_; refine GE.q2 1 rfl (by as_aux_lemma => kernel_rfl) rfl (qg_runs (rv_load1 1 rfl rfl rfl)) (fun _ h => by exact h.drop 2) rfl ?_; refine GE.q2 2 rfl (by as_aux_lemma => kernel_rfl) rfl (qg_runs (rv_move rfl)) (fun _ h => by exact h.drop 2) rfl ?_; refine GE.q2 4 rfl (by as_aux_lemma => kernel_rfl) rfl (qg_runs (rv_move rfl)) (fun _ h => by exact h.drop 2) rfl ?_
                                      (refine GE.ol 3 (by as_aux_lemma => kernel_rfl) rfl rfl (og_callM1 rfl rfl rfl (l1Below_any _ (by assumption) (by assumption)).toF) rfl (fun _ _ h => by exact h.drop 2) ?_; rintro ⟨xa, xi, xh⟩ ⟨⟨hx0, hx1⟩, hxi⟩; try dsimp only)
                                      (refine GE.ol 5 (by as_aux_lemma => kernel_rfl) rfl rfl (og_callM0 rfl rfl rfl (l1Below_any _ (by assumption) (by assumption)).toF) rfl (fun _ _ h => by exact h.drop 2) ?_; rintro ⟨xb, xi, xh⟩ ⟨⟨hy0, hy1⟩, hxi⟩; try dsimp only)
                                      refine GE.ol 6 (by as_aux_lemma => kernel_rfl) rfl rfl (og_runs (rv_build2 rfl (.cons rfl (.cons rfl (.cons rfl (.cons rfl (.cons rfl (.cons rfl (.cons rfl .nil))))))) (.cons rfl rfl (.zero (.cons .nil)) (.cons rfl rfl (.succ (.zero (.cons .nil))) (.cons rfl rfl (.succ (.succ (.zero (.cons .nil)))) (.cons rfl rfl (.succ (.succ (.succ (.zero (.cons .nil))))) (.cons rfl rfl (.succ (.succ (.succ (.succ (.zero (.cons .nil)))))) (.cons rfl rfl (.succ (.succ (.succ (.succ (.succ (.zero (.cons .nil))))))) (.cons rfl rfl (.succ (.succ (.succ (.succ (.succ (.succ (.zero (.cons .nil)))))))) .nil))))))))) rfl (fun _ _ h => by exact h.drop 2) (fun _ _ => ?_); refine GE.ol 7 (by as_aux_lemma => kernel_rfl) rfl rfl (og_lit rfl (.cons rfl .nil) rfl rfl rfl rfl rfl rfl) rfl (fun _ _ h => by exact h.drop 3) (fun vl _ => ?_); refine GE.ol 8 (by as_aux_lemma => kernel_rfl) rfl rfl (og_app2 rfl rfl rfl (by exact Rd.owned 0 rfl) rfl rfl (by (simp; omega)) (by (simp; omega))) rfl (fun _ _ h => by exact h.drop 3) (fun vi _ => ?_); refine GE.knowD (fun w hw => by exact (Rd.owned 2 rfl (v := vi) w hw).one_) (fun hovi => ?_); refine GE.t 9 (by as_aux_lemma => kernel_rfl) rfl rfl rfl (og_runs (rv_field rfl)) rfl (fun _ _ => ?_)
                                      refine GE.t0 10 (by as_aux_lemma => kernel_rfl) rfl rfl rfl (og_st4 rfl rfl rfl (cells_one (by assumption)) rfl (by repeat (first | rfl | refine one_cons (by assumption) ?_)) (.succ (.succ (.succ (.succ (.succ (.succ (.succ (.succ (.succ (.zero (.cons .nil)))))))))))) (fun _ _ => ?_); refine GE.done (by as_aux_lemma => kernel_rfl) ?_; refine G.inN (G.thenN (G.seq (G.region (G.v (rv_loadW 4 rfl rfl rfl) rfl ?_)))); refine G.op0 (og_st7 rfl rfl rfl rfl rfl (by repeat (first | rfl | refine one_cons (by first | rfl | assumption) ?_)) (.zero (.cons (.cons (.cons (.cons (.cons (.cons (.cons (.cons (.cons (.cons .nil)))))))))))) (fun _ _ => ?_); refine G.done (G.thenN (G.ret ?_))
                                      (refine G.frontB7 bk2 rfl ?_); (refine G.frontB2 cb rfl ?_); (refine G.frontR7 pv rfl ?_); (refine G.frontR7 tv rfl ?_); (refine G.frontR5 vi rfl ?_); refine G.rowEq ((its ++ [(⟨3, 1, 2, 3, 4, xa, xb⟩ : ItemM)]).map ItemM.cells) (by rw [List.map_append]; rfl) rfl ?_; refine G.retFc (((⟨_, ⟨_, _, _, _⟩, _, ps, t0 :: tr, _, its ++ [⟨3, 1, 2, 3, 4, xa, xb⟩]⟩, pv, tv, vi), pv, ps.map PairM.cells), xi, xh) ⟨⟨⟨(by assumption), (by assumption), (by assumption)⟩, fun _ h => h, (by (dsimp only at *; omega)), (by (dsimp only at *; omega)), (by (simp only [List.length_cons, List.length_append, List.length_nil, List.length_set, List.length_drop] at *; omega)), (by exact htf)⟩, hxi⟩ 4 rfl rfl rfl rfl rfl (fun w hh => hh.sublist ?_); (repeat (first | exact List.Sublist.refl _ | refine List.Sublist.cons_cons _ ?_ | refine List.Sublist.cons _ ?_)); done
                                  · try exact Bool.noConfusion hc
                                    all_goals
                                     try replace hc := of_decide_eq_false hc
                                     try (exfalso; contradiction)
                                     all_goals
                                      refine G.seq (G.region (G.v (rv_eql rfl rfl) rfl (G.v (rv_assign rfl) rfl (G.done (G.thenN ?_))))); refine G.cond rfl (fun hc => ?_) (fun hc => ?_)
                                      · try exact Bool.noConfusion hc
                                        all_goals
                                         try replace hc := of_decide_eq_true hc
                                         try (exfalso; contradiction)
                                         all_goals
                                          refine G.seq (G.region (G.v (rv_field rfl) rfl (G.v (rv_load1 2 rfl rfl rfl) rfl ?_))); refine G.v (rv_len rfl (by exact Rd.owned 3 rfl)) rfl ?_; refine G.v (rv_gtr rfl rfl) rfl (G.done (G.thenN ?_)); refine G.cond rfl (fun hc => ?_) (fun hc => ?_)
                                          · try exact Bool.noConfusion hc
                                            all_goals
                                             try replace hc := of_decide_eq_true hc
                                             try (exfalso; contradiction)
                                             all_goals
                                              obtain ⟨i0, ir, rfl⟩ : ∃ i0 ir, its = i0 :: ir := (by cases its with | nil => exact absurd hc (by decide) | cons a b => exact ⟨a, b, rfl⟩); have hir : ir.length ≤ 5 := Nat.le_of_succ_le_succ hil
                                              all_goals
                                               refine G.region (G.v (rv_field rfl) rfl (G.v (rv_load1 2 rfl rfl rfl) rfl (G.v (rv_move rfl) rfl ?_))); refine G.v (rv_indexH rfl rfl (by exact Rd.owned 3 rfl) rfl (by rfl)) rfl ?_; refine G.v (rv_fieldE rfl) rfl ?_; refine G.op0 (og_stE3 rfl rfl rfl (by rfl) rfl rfl rfl rfl (.succ (.succ (.succ (.zero (.cons .nil)))))) (fun _ _ => ?_); refine G.done (G.inN (G.thenN (G.seq (G.region (G.v (rv_loadW 2 rfl rfl rfl) rfl ?_))))); refine G.op0 (og_st6 rfl rfl rfl rfl rfl (by repeat (first | rfl | refine one_cons (by first | rfl | assumption) ?_)) (.zero (.cons (.cons (.cons (.cons (.cons (.cons (.cons (.cons (.cons (.cons .nil)))))))))))) (fun _ _ => ?_); refine G.done (G.thenN (G.ret ?_))
                                               (refine G.frontB6 bk2 rfl ?_); (refine G.frontB1 cb rfl ?_); (refine G.frontR6 pv rfl ?_); (refine G.frontR6 tv rfl ?_); (refine G.frontR6 iv rfl ?_); refine G.rowEq (({ i0 with d := far } :: ir).map ItemM.cells) rfl rfl ?_; refine G.retFc (((⟨_, ⟨_, _, _, _⟩, _, ps, t0 :: tr, _, { i0 with d := far } :: ir⟩, pv, tv, iv), pv, ps.map PairM.cells), xi, xh) ⟨⟨⟨(by assumption), (by assumption), (by assumption)⟩, fun _ h => h, (by (dsimp only at *; omega)), (by (dsimp only at *; omega)), (by (simp only [List.length_cons, List.length_append, List.length_nil, List.length_set, List.length_drop] at *; omega)), (by exact htf)⟩, hxi⟩ 4 rfl rfl rfl rfl rfl (fun w hh => hh.sublist ?_); (repeat (first | exact List.Sublist.refl _ | refine List.Sublist.cons_cons _ ?_ | refine List.Sublist.cons _ ?_)); done
                                          · try exact Bool.noConfusion hc
                                            all_goals
                                             try replace hc := of_decide_eq_false hc
                                             try (exfalso; contradiction)
                                             all_goals
                                              refine G.skip (G.inN (G.thenN (G.seq (G.region (G.v (rv_loadW 2 rfl rfl rfl) rfl ?_))))); refine G.op0 (og_st6 rfl rfl rfl rfl rfl (by repeat (first | rfl | refine one_cons (by first | rfl | assumption) ?_)) (.zero (.cons (.cons (.cons (.cons (.cons (.cons (.cons (.cons (.cons (.cons .nil)))))))))))) (fun _ _ => ?_); refine G.done (G.thenN (G.ret ?_))
                                              (refine G.frontB6 bk2 rfl ?_); (refine G.frontB1 cb rfl ?_); (refine G.frontR6 pv rfl ?_); (refine G.frontR6 tv rfl ?_); (refine G.frontR6 iv rfl ?_); refine G.retFc (((⟨_, ⟨_, _, _, _⟩, _, ps, t0 :: tr, _, its⟩, pv, tv, iv), pv, ps.map PairM.cells), xi, xh) ⟨⟨⟨(by assumption), (by assumption), (by assumption)⟩, fun _ h => h, (by (dsimp only at *; omega)), (by (dsimp only at *; omega)), (by (dsimp only at *; omega)), (by exact htf)⟩, hxi⟩ 4 rfl rfl rfl rfl rfl (fun w hh => hh.sublist ?_); (repeat (first | exact List.Sublist.refl _ | refine List.Sublist.cons_cons _ ?_ | refine List.Sublist.cons _ ?_)); done
                                      · try exact Bool.noConfusion hc
                                        all_goals
                                         try replace hc := of_decide_eq_false hc
                                         try (exfalso; contradiction)
                                         all_goals
                                          refine G.seq (G.region (G.v (rv_eql rfl rfl) rfl (G.v (rv_assign rfl) rfl (G.done (G.thenN ?_))))); refine G.cond rfl (fun hc => ?_) (fun hc => ?_)
                                          · try exact Bool.noConfusion hc
                                            all_goals
                                             try replace hc := of_decide_eq_true hc
                                             try (exfalso; contradiction)
                                             all_goals
                                              refine G.seq (G.region (G.v (rv_field rfl) rfl (G.v (rv_load1 2 rfl rfl rfl) rfl ?_))); refine G.v (rv_len rfl (by exact Rd.owned 5 rfl)) rfl ?_; refine G.v (rv_gtr rfl rfl) rfl (G.done (G.thenN ?_)); refine G.cond rfl (fun hc => ?_) (fun hc => ?_)
                                              · try exact Bool.noConfusion hc
                                                all_goals
                                                 try replace hc := of_decide_eq_true hc
                                                 try (exfalso; contradiction)
                                                 all_goals
                                                  have hpq : (ps.map PairM.cells).length = ps.length := List.length_map ..; have hpp : 0 < ps.length := (by omega)
                                                  all_goals
                                                   refine G.region (G.v (rv_field rfl) rfl (G.v (rv_load1 2 rfl rfl rfl) rfl ?_)); refine G.v (rv_sliceL (l := 1) rfl rfl (by exact Rd.owned 5 rfl) (by omega)) rfl ?_; refine G.know (fun w hw => by exact (Rd.sub (l := 1) (k := (ps.map PairM.cells).length) (Rd.owned 5 rfl (v := pv) w hw) (by omega) (Nat.le_refl _)).one_) (fun hosv => ?_); refine G.v (rv_field rfl) rfl ?_; refine G.op0 (og_st2 rfl rfl rfl (cells_one (by assumption)) rfl (by repeat (first | rfl | refine one_cons (by assumption) ?_)) (.succ (.succ (.succ (.succ (.succ (.succ (.zero (.cons .nil))))))))) (fun _ _ => ?_); refine G.done (G.inN (G.thenN (G.seq (G.region (G.v (rv_loadW 2 rfl rfl rfl) rfl ?_))))); refine G.op0 (og_st6 rfl rfl rfl rfl rfl (by repeat (first | rfl | refine one_cons (by first | rfl | assumption) ?_)) (.zero (.cons (.cons (.cons (.cons (.cons (.cons (.cons (.cons (.cons (.cons .nil)))))))))))) (fun _ _ => ?_); refine G.done (G.thenN (G.ret ?_))
                                                   (refine G.frontB6 bk2 rfl ?_); (refine G.frontB1 cb rfl ?_); (refine G.frontR6 pv rfl ?_); (refine G.frontR6 tv rfl ?_); (refine G.frontR6 iv rfl ?_); refine G.retFc (((⟨_, ⟨_, _, _, _⟩, _, ps.drop 1, t0 :: tr, _, its⟩, subV pv 2 1 (ps.map PairM.cells).length, tv, iv), pv, ps.map PairM.cells), xi, xh) ⟨⟨⟨(by assumption), (by assumption), (by assumption)⟩, fun _ h => Rd.subL h (by omega), (by (simp only [List.length_cons, List.length_append, List.length_nil, List.length_set, List.length_drop] at *; omega)), (by (dsimp only at *; omega)), (by (dsimp only at *; omega)), (by exact htf)⟩, hxi⟩ 4 rfl rfl rfl rfl rfl (fun w hh => hh.sublist ?_); (repeat (first | exact List.Sublist.refl _ | refine List.Sublist.cons_cons _ ?_ | refine List.Sublist.cons _ ?_)); done
                                              · try exact Bool.noConfusion hc
                                                all_goals
                                                 try replace hc := of_decide_eq_false hc
                                                 try (exfalso; contradiction)
                                                 all_goals
                                                  refine G.skip (G.inN (G.thenN (G.seq (G.region (G.v (rv_loadW 2 rfl rfl rfl) rfl ?_))))); refine G.op0 (og_st6 rfl rfl rfl rfl rfl (by repeat (first | rfl | refine one_cons (by first | rfl | assumption) ?_)) (.zero (.cons (.cons (.cons (.cons (.cons (.cons (.cons (.cons (.cons (.cons .nil)))))))))))) (fun _ _ => ?_); refine G.done (G.thenN (G.ret ?_))
                                                  (refine G.frontB6 bk2 rfl ?_); (refine G.frontB1 cb rfl ?_); (refine G.frontR6 pv rfl ?_); (refine G.frontR6 tv rfl ?_); (refine G.frontR6 iv rfl ?_); refine G.retFc (((⟨_, ⟨_, _, _, _⟩, _, ps, t0 :: tr, _, its⟩, pv, tv, iv), pv, ps.map PairM.cells), xi, xh) ⟨⟨⟨(by assumption), (by assumption), (by assumption)⟩, fun _ h => h, (by (dsimp only at *; omega)), (by (dsimp only at *; omega)), (by (dsimp only at *; omega)), (by exact htf)⟩, hxi⟩ 4 rfl rfl rfl rfl rfl (fun w hh => hh.sublist ?_); (repeat (first | exact List.Sublist.refl _ | refine List.Sublist.cons_cons _ ?_ | refine List.Sublist.cons _ ?_)); done
                                          · try exact Bool.noConfusion hc
                                            all_goals
                                             try replace hc := of_decide_eq_false hc
                                             try (exfalso; contradiction)
                                             all_goals
                                              refine G.seq (G.region (G.v (rv_eql rfl rfl) rfl (G.v (rv_assign rfl) rfl (G.done (G.thenN ?_))))); refine G.cond rfl (fun hc => ?_) (fun hc => ?_)
                                              · try exact Bool.noConfusion hc
                                                all_goals
                                                 try replace hc := of_decide_eq_true hc
                                                 try (exfalso; contradiction)
                                                 all_goals
                                                  refine G.frontR4 tv rfl ?_; refine G.drawD1 [8, 9] rfl ?_; refine GE.q2 0 rfl (by as_aux_lemma => kernel_rfl) rfl (qg_runs (rv_field rfl)) (fun _ h => by exact h.drop 1) rfl ?_; refine GE.q2 1 rfl (by as_aux_lemma => kernel_rfl) rfl (qg_runs (rv_load1 2 rfl rfl rfl)) (fun _ h => by exact h.drop 1) rfl ?_; refine GE.ol 2 (by as_aux_lemma => kernel_rfl) rfl rfl (og_runs (rv_field rfl)) rfl (fun _ _ h => by exact h.drop 1) (fun _ _ => ?_); refine GE.ol 3 (by as_aux_lemma => kernel_rfl) rfl rfl (og_runs (rv_load1 3 rfl rfl rfl)) rfl (fun _ _ h => by exact h.drop 1) (fun _ _ => ?_); refine GE.ol 4 (by as_aux_lemma => kernel_rfl) rfl rfl (og_runs (rv_indexH rfl rfl (by exact Rd.owned 0 rfl) rfl (by rfl))) rfl (fun _ _ h => by exact h.drop 1) (fun _ _ => ?_); refine GE.ol 5 (by as_aux_lemma => kernel_rfl) rfl rfl (og_runs (rv_loadEW rfl (by exact Rd.owned 0 rfl) (by rfl) rfl)) rfl (fun _ _ h => by exact h.drop 1) (fun _ _ => ?_); refine GE.ol 6 (by as_aux_lemma => kernel_rfl) rfl rfl (og_lit rfl (.cons rfl .nil) rfl rfl rfl rfl rfl rfl) rfl (fun _ _ h => by exact h.drop 2) (fun vl _ => ?_); refine GE.ol 7 (by as_aux_lemma => kernel_rfl) rfl rfl (og_app1 rfl rfl rfl (by exact Rd.owned 0 rfl) rfl rfl (by (simp; omega)) (by (simp; omega))) rfl (fun _ _ h => by exact h.drop 2) (fun vt _ => ?_); refine GE.knowD (fun w hw => by exact (Rd.owned 1 rfl (v := vt) w hw).one_) (fun hovt => ?_)
                                                  refine GE.t 8 (by as_aux_lemma => kernel_rfl) rfl rfl rfl (og_runs (rv_field rfl)) rfl (fun _ _ => ?_); refine GE.t0 9 (by as_aux_lemma => kernel_rfl) rfl rfl rfl (og_st4 rfl rfl rfl (cells_one (by assumption)) rfl (by repeat (first | rfl | refine one_cons (by assumption) ?_)) (.succ (.succ (.succ (.succ (.succ (.succ (.succ (.zero (.cons .nil)))))))))) (fun _ _ => ?_); refine GE.done (by as_aux_lemma => kernel_rfl) ?_; refine G.inN (G.thenN (G.seq (G.region (G.v (rv_loadW 4 rfl rfl rfl) rfl ?_)))); refine G.op0 (og_st7 rfl rfl rfl rfl rfl (by repeat (first | rfl | refine one_cons (by first | rfl | assumption) ?_)) (.zero (.cons (.cons (.cons (.cons (.cons (.cons (.cons (.cons (.cons (.cons .nil)))))))))))) (fun _ _ => ?_); refine G.done (G.thenN (G.ret ?_))
                                                  (refine G.frontB7 bk2 rfl ?_); (refine G.frontB3 cb rfl ?_); (refine G.frontR7 pv rfl ?_); (refine G.frontR4 vt rfl ?_); refine G.rowEq (((t0 :: tr) ++ [t0]).map TypeM.cells) (by rw [List.map_append]; rfl) rfl ?_; (refine G.frontR7 iv rfl ?_); refine G.retFc (((⟨_, ⟨_, _, _, _⟩, _, ps, (t0 :: tr) ++ [t0], _, its⟩, pv, vt, iv), pv, ps.map PairM.cells), xi, xh) ⟨⟨⟨(by assumption), (by assumption), (by assumption)⟩, fun _ h => h, (by (dsimp only at *; omega)), (by (simp only [List.length_cons, List.length_append, List.length_nil, List.length_set, List.length_drop] at *; omega)), (by (dsimp only at *; omega)), (by exact htf.dbl)⟩, hxi⟩ 4 rfl rfl rfl rfl rfl (fun w hh => hh.sublist ?_); (repeat (first | exact List.Sublist.refl _ | refine List.Sublist.cons_cons _ ?_ | refine List.Sublist.cons _ ?_)); done
                                              · try exact Bool.noConfusion hc
                                                all_goals
                                                 try replace hc := of_decide_eq_false hc
                                                 try (exfalso; contradiction)
                                                 all_goals
                                                  refine G.seq (G.region (G.v (rv_eql rfl rfl) rfl (G.v (rv_assign rfl) rfl (G.done (G.thenN ?_))))); refine G.cond rfl (fun hc => ?_) (fun hc => ?_)
                                                  · try exact Bool.noConfusion hc
                                                    all_goals
                                                     try replace hc := of_decide_eq_true hc
                                                     try (exfalso; contradiction)
                                                     all_goals
                                                      refine G.region (G.v (rv_field rfl) rfl ?_); refine G.op0 (og_st2 rfl rfl rfl (cells_one (by rfl)) rfl (by repeat (rfl)) (.succ (.succ (.succ (.succ (.succ (.succ (.succ (.zero (.cons .nil)))))))))) (fun _ _ => ?_); refine G.done (G.inN (G.thenN (G.seq (G.region (G.v (rv_loadW 2 rfl rfl rfl) rfl ?_))))); refine G.op0 (og_st6 rfl rfl rfl rfl rfl (by repeat (first | rfl | refine one_cons (by first | rfl | assumption) ?_)) (.zero (.cons (.cons (.cons (.cons (.cons (.cons (.cons (.cons (.cons (.cons .nil)))))))))))) (fun _ _ => ?_); refine G.done (G.thenN (G.ret ?_))
                                                      (refine G.frontB6 bk2 rfl ?_); (refine G.frontB1 cb rfl ?_); (refine G.frontR6 pv rfl ?_); refine G.heap (fun w hh => hh.nilRow 82 7) ?_; (refine G.frontR6 iv rfl ?_); refine G.retFc (((⟨_, ⟨_, _, _, _⟩, _, ps, [], _, its⟩, pv, .slice none 0 0, iv), pv, ps.map PairM.cells), xi, xh) ⟨⟨⟨(by assumption), (by rfl), (by assumption)⟩, fun _ h => h, (by (dsimp only at *; omega)), (by exact Nat.zero_le _), (by (dsimp only at *; omega)), (by exact TyFar.nil)⟩, hxi⟩ 4 rfl rfl rfl rfl rfl (fun w hh => hh.sublist ?_); (repeat (first | exact List.Sublist.refl _ | refine List.Sublist.cons_cons _ ?_ | refine List.Sublist.cons _ ?_)); done
                                                  · try exact Bool.noConfusion hc
                                                    all_goals
                                                     try replace hc := of_decide_eq_false hc
                                                     try (exfalso; contradiction)
                                                     all_goals
                                                      refine G.skip (G.inN (G.thenN (G.seq (G.region (G.v (rv_loadW 2 rfl rfl rfl) rfl ?_))))); refine G.op0 (og_st6 rfl rfl rfl rfl rfl (by repeat (first | rfl | refine one_cons (by first | rfl | assumption) ?_)) (.zero (.cons (.cons (.cons (.cons (.cons (.cons (.cons (.cons (.cons (.cons .nil)))))))))))) (fun _ _ => ?_); refine G.done (G.thenN (G.ret ?_))
                                                      (refine G.frontB6 bk2 rfl ?_); (refine G.frontB1 cb rfl ?_); (refine G.frontR6 pv rfl ?_); (refine G.frontR6 tv rfl ?_); (refine G.frontR6 iv rfl ?_); refine G.retFc (((⟨_, ⟨_, _, _, _⟩, _, ps, t0 :: tr, _, its⟩, pv, tv, iv), pv, ps.map PairM.cells), xi, xh) ⟨⟨⟨(by assumption), (by assumption), (by assumption)⟩, fun _ h => h, (by (dsimp only at *; omega)), (by (dsimp only at *; omega)), (by (dsimp only at *; omega)), (by exact htf)⟩, hxi⟩ 4 rfl rfl rfl rfl rfl (fun w hh => hh.sublist ?_); (repeat (first | exact List.Sublist.refl _ | refine List.Sublist.cons_cons _ ?_ | refine List.Sublist.cons _ ?_)); done
end Go.Proofs.YtibkggjbkgdnkaaGreat

/-
  An order of which nothing is wrong, as the draws hand it out.
-/
namespace Go.Proofs.YtibkggjbkgdnkaaGreat
open Go.RowKit
theorem one_eqD {a a' : Ch} {F : List Ch} (h1 : a = a') : a :: F = [a'] ++ F := by subst h1; rfl
theorem G.keep1D {n : Nat} {w0 : World} {fr : Fr} {H : List Ch} (m : Nat) {c1 : Ch} {J : List Ch} {K : Act → World → Prop} (hH : H = c1 :: J) (h : G n w0 fr (c1 :: J.drop m) K) : G n w0 fr H K := by
  subst hH
  exact G.heap (fun w hh => hh.sublist (List.Sublist.cons_cons _ (List.drop_sublist _ _))) h
attribute [local irreducible] Go.wpList Go.Code.wp Go.Exit.then Go.Exit.inBlock Go.bodyPost Go.Calls pE pB G RunsV FnV Fn FnM
set_option maxRecDepth 100000
set_option maxHeartbeats 4000000
theorem l5Good_any {w0 : World} {v : Value} {l : List Int} {cb i : Nat} {h : Int} (hv : Rd w0 v 1 (l.map bcell)) (hi : i ≤ l.length) :
    FnM Tryz.prog 242 [pB cb 0] w0 [.blk cb 184 [v, .int .i64 i, .int .i64 h]] (fun x : (ReqM × Value × Value × Value) × Nat × Int => ((x.1.2.1.oneCell' = true ∧ x.1.2.2.1.oneCell' = true ∧ x.1.2.2.2.oneCell' = true) ∧ x.1.1.pairs.length ≤ 32 ∧ 1 ≤ x.1.1.types.length ∧ x.1.1.types.length ≤ 8 ∧ x.1.1.items.length ≤ 6 ∧ TyFar x.1.1.types) ∧ x.2.1 ≤ l.length)
      (fun x => .agg (x.1.1.cells x.1.2.1 x.1.2.2.1 x.1.2.2.2).toArray) (fun x => [.row x.1.2.2.2 106 7 (x.1.1.items.map ItemM.cells), .row x.1.2.2.1 82 7 (x.1.1.types.map TypeM.cells), .row x.1.2.1 145 2 (x.1.1.pairs.map PairM.cells), .blk cb 184 [v, .int .i64 x.2.1, .int .i64 x.2.2]]) := by
  refine FnM.of (n := 46) Tryz.func242 rfl rfl (fun F => ?_); refine G.seq (G.region ?_); refine G.op (og_alloc) rfl (fun bk2 _ => ?_); refine G.done (G.thenN (G.seq (G.region (G.v (rv_move rfl) rfl ?_))))
  (refine G.frontB1 cb rfl ?_); refine G.op (og_callN0 rfl rfl rfl (l2Right_any (by assumption) (by assumption)).toF) rfl ?_; rintro ⟨⟨r, pv, tv, iv⟩, xi, xh⟩ ⟨⟨⟨hopv, hotv, hoiv⟩, hpl, htl1, htl, hil, htf⟩, hxi⟩; try dsimp only
  obtain ⟨wy, ⟨pw, pd, ph, pg⟩, cl, ps, ty, ms, its⟩ := r; try dsimp only at hpl htl1 htl hil
  replace hxi : xi ≤ l.length := hxi
  refine G.op (og_alloc) rfl (fun bk3 _ => ?_); refine G.op0 (og_st0 rfl rfl rfl rfl rfl (by repeat (first | rfl | refine one_cons (by first | rfl | assumption) ?_)) (.zero (.cons (.cons (.cons (.cons (.cons (.cons (.cons (.cons (.cons (.cons .nil)))))))))))) (fun _ _ => ?_); refine G.done (G.thenN (G.seq (G.seq (G.region (G.v (rv_loadW 0 rfl rfl rfl) rfl ?_))))); refine G.op (og_callV rfl rfl (fun w hh => sclass_any (r := ⟨wy, ⟨pw, pd, ph, pg⟩, cl, ps, ty, ms, its⟩) w (by exact Rd.owned 3 rfl _ hh) (by exact Rd.owned 2 rfl _ hh) (by exact Rd.owned 1 rfl _ hh))) rfl (fun _ _ => ?_); refine G.v (rv_neq rfl rfl) rfl (G.done (G.thenN ?_)); refine G.cond rfl (fun hc => ?_) (fun hc => ?_)
  · try exact Bool.noConfusion hc
    all_goals
     try replace hc := of_decide_eq_true hc
     try (exfalso; contradiction)
     all_goals
      refine G.seq (G.region ?_); refine G.v (rv_build2 rfl (.cons rfl (.cons rfl (.cons rfl (.cons rfl .nil)))) (.cons rfl rfl (.zero (.cons .nil)) (.cons rfl rfl (.succ (.zero (.cons .nil))) (.cons rfl rfl (.succ (.succ (.zero (.cons .nil)))) (.cons rfl rfl (.succ (.succ (.succ (.zero (.cons .nil))))) .nil))))) rfl ?_; refine G.v (rv_field rfl) rfl ?_; refine G.op0 (og_st0 rfl rfl rfl rfl rfl rfl (.succ (.zero (.cons (.cons (.cons (.cons .nil))))))) (fun _ _ => ?_); refine G.done (G.thenN (G.seq (G.region (G.v (rv_loadW 0 rfl rfl rfl) rfl ?_)))); refine G.op (og_callV rfl rfl (fun w hh => smasterOf_any (r := ⟨wy, ⟨30, 25, 24, 400⟩, cl, ps, ty, ms, its⟩) w (by exact Rd.owned 2 rfl _ hh))) rfl (fun _ _ => ?_); refine G.v (rv_move rfl) rfl (G.v (rv_extract rfl rfl) rfl (G.v (rv_extract rfl rfl) rfl ?_)); refine G.op (og_alloc) rfl (fun bk4 _ => ?_); refine G.op0 (og_st0 rfl rfl rfl rfl rfl rfl (.zero (.cons (.cons (.cons (.cons (.cons (.cons (.cons .nil))))))))) (fun _ _ => ?_); refine G.v (rv_assign rfl) rfl (G.done (G.thenN (G.seq (G.region ?_)))); refine G.op (og_lit rfl .nil rfl rfl rfl rfl rfl rfl) rfl (fun kv _ => ?_); refine G.know (fun w hw => (Rd.owned 0 rfl (v := kv) w hw).one_) (fun hokv => ?_); refine G.v (rv_assign rfl) rfl (G.done (G.thenN (G.seq (G.seq (G.region (G.v (rv_assign rfl) rfl (G.done ?_)))))))
      refine G.thenN (G.block ?_)
      -- loop 0: turned [6, 7], kept [2, 3, 4]
      refine G.frontR0 kv rfl ?_; refine G.loopK (ι := Nat × Value × List ItemM) (ks := [2, 3, 4]) (fun x => [(6, x.2.1), (7, .int .i64 (x.1 : Int))]) (fun x => [.row x.2.1 106 7 (x.2.2.map ItemM.cells)]) (fun x => (x.1 ≤ its.length ∧ x.2.2.length ≤ x.1) ∧ x.2.1.oneCell' = true) (fun x => its.length - x.1) (0, kv, []) (.cons rfl (.cons rfl (.cons rfl (.nil)))) rfl ?_ ?_ ?_
      · exact ⟨⟨Nat.zero_le _, Nat.le_refl _⟩, hokv⟩
      · exact ⟨rfl, rfl, trivial⟩
      rintro ⟨k, kv2, ks⟩ ⟨⟨hk, hkl⟩, hokv2⟩
      dsimp only at hk hkl hokv2 ⊢
      have hil3 : (its.map ItemM.cells).length = its.length := List.length_map ..
      have hks3 : (ks.map ItemM.cells).length = ks.length := List.length_map ..
      all_goals
       refine G.seq (G.seq (G.region (G.v (rv_move rfl) rfl (G.v (rv_field rfl) rfl (G.v (rv_load1 2 rfl rfl rfl) rfl ?_))))); refine G.v (rv_len rfl (by exact Rd.owned 3 rfl)) rfl ?_; refine G.v (rv_lss rfl rfl) rfl (G.done (G.thenN ?_)); refine G.cond rfl (fun hc => ?_) (fun hc => ?_)
       · try exact Bool.noConfusion hc
         all_goals
          try replace hc := of_decide_eq_true hc
          try (exfalso; contradiction)
          all_goals
           obtain ⟨x0, hx0⟩ := get_of_lt (l := its) (k := k) (by omega); have hel := get_map hx0 ItemM.cells; have hklt : k < its.length := (by omega)
           all_goals
            refine G.skip (G.thenN (G.seq (G.block (G.seq ?_)))); refine G.drawL [] ?_; refine GE.q 0 rfl (by as_aux_lemma => kernel_rfl) rfl (qg_runs (rv_field rfl)) rfl ?_; refine GE.q 1 rfl (by as_aux_lemma => kernel_rfl) rfl (qg_runs (rv_load1 2 rfl rfl rfl)) rfl ?_; refine GE.q 2 rfl (by as_aux_lemma => kernel_rfl) rfl (qg_runs (rv_move rfl)) rfl ?_; refine GE.q 3 rfl (by as_aux_lemma => kernel_rfl) rfl (qg_runs (rv_indexH rfl rfl (by exact Rd.owned 3 rfl) rfl (by assumption))) rfl ?_; refine GE.q 4 rfl (by as_aux_lemma => kernel_rfl) rfl (qg_runs (rv_loadEW rfl (by exact Rd.owned 3 rfl) (by assumption) rfl)) rfl ?_; refine GE.ol 5 (by as_aux_lemma => kernel_rfl) rfl rfl (og_runs (rv_loadW 1 rfl rfl rfl)) rfl (fun _ _ h => by exact h) (fun _ _ => ?_); refine GE.ol 6 (by as_aux_lemma => kernel_rfl) rfl rfl (og_callV rfl rfl (fun w _ => sfits_any x0 _ w)) rfl (fun _ _ h => by exact h) (fun _ _ => ?_); refine GE.done (by as_aux_lemma => kernel_rfl) ?_; refine G.thenN ?_; refine G.cond rfl (fun hc => ?_) (fun hc => ?_)
            · try exact Bool.noConfusion hc
              all_goals
               try replace hc := of_decide_eq_true hc
               try (exfalso; contradiction)
               all_goals
                refine G.region (G.v (rv_move rfl) rfl (G.v (rv_field rfl) rfl (G.v (rv_load1 2 rfl rfl rfl) rfl (G.v (rv_move rfl) rfl ?_)))); refine G.v (rv_indexH rfl rfl (by exact Rd.owned 3 rfl) rfl (by assumption)) rfl ?_; refine G.v (rv_loadEW rfl (by exact Rd.owned 3 rfl) (by assumption) rfl) rfl ?_; refine G.op (og_lit rfl (.cons rfl .nil) rfl rfl rfl rfl rfl rfl) rfl (fun vx _ => ?_); refine G.op (og_app1 rfl rfl rfl (by exact Rd.owned 0 rfl) rfl rfl (by (simp; omega)) (by (simp; omega))) rfl (fun kv3 _ => ?_); refine G.know (fun w hw => by exact (Rd.owned 1 rfl (v := kv3) w hw).one_) (fun hokv3 => ?_); refine G.v (rv_assign rfl) rfl (G.done (G.inN (G.thenN (G.region (G.v (rv_move rfl) rfl ?_))))); refine G.v (rv_incr rfl rfl (by omega)) rfl ?_; refine G.v (rv_assign rfl) rfl (G.done ?_); refine G.frontR1 kv3 rfl ?_
                (refine G.keep1D 1 rfl ?_; refine G.backK (k + 1, kv3, ks ++ [x0]) 0 (by (exact one_eqD (congrArg (fun z => Ch.row kv3 106 7 z) (by rw [List.map_append]; rfl)))) (.cons rfl (.cons rfl (.cons rfl (.nil)))) ?_ ?_ ?_)
                · exact ⟨rfl, rfl, trivial⟩
                · exact ⟨⟨by dsimp only; omega, by dsimp only; (try simp only [List.length_append, List.length_cons, List.length_nil]); omega⟩, by assumption⟩
                · dsimp only; omega
            · try exact Bool.noConfusion hc
              all_goals
               try replace hc := of_decide_eq_false hc
               try (exfalso; contradiction)
               all_goals
                refine G.skip (G.inN (G.thenN (G.region (G.v (rv_move rfl) rfl ?_)))); refine G.v (rv_incr rfl rfl (by omega)) rfl ?_; refine G.v (rv_assign rfl) rfl (G.done ?_); refine G.frontR0 kv2 rfl ?_
                (refine G.keep1D 0 rfl ?_; refine G.backK (k + 1, kv2, ks) 0 (by exact one_eqD rfl) (.cons rfl (.cons rfl (.cons rfl (.nil)))) ?_ ?_ ?_)
                · exact ⟨rfl, rfl, trivial⟩
                · exact ⟨⟨by dsimp only; omega, by dsimp only; (try simp only [List.length_append, List.length_cons, List.length_nil]); omega⟩, by assumption⟩
                · dsimp only; omega
       · try exact Bool.noConfusion hc
         all_goals
          try replace hc := of_decide_eq_false hc
          try (exfalso; contradiction)
          all_goals
           refine G.exit (G.thenX (G.thenX (G.inX (G.thenN (G.region (G.v (rv_move rfl) rfl (G.v (rv_field rfl) rfl ?_))))))); refine G.op0 (og_st2 rfl rfl rfl (cells_one (by assumption)) rfl (by repeat (first | rfl | refine one_cons (by assumption) ?_)) (.succ (.succ (.succ (.succ (.succ (.succ (.succ (.succ (.succ (.zero (.cons .nil)))))))))))) (fun _ _ => ?_); refine G.done (G.thenN (G.seq (G.region (G.v (rv_loadW 2 rfl rfl rfl) rfl ?_)))); refine G.op0 (og_st7 rfl rfl rfl rfl rfl (by repeat (first | rfl | refine one_cons (by first | rfl | assumption) ?_)) (.zero (.cons (.cons (.cons (.cons (.cons (.cons (.cons (.cons (.cons (.cons .nil)))))))))))) (fun _ _ => ?_); refine G.done (G.thenN (G.ret ?_))
           (refine G.frontB7 bk2 rfl ?_); (refine G.frontB7 cb rfl ?_); (refine G.frontR7 pv rfl ?_); (refine G.frontR7 tv rfl ?_); (refine G.frontR4 kv2 rfl ?_); refine G.retFc ((⟨_, ⟨_, _, _, _⟩, _, ps, ty, _, ks⟩, pv, tv, kv2), xi, xh) ⟨⟨⟨hopv, hotv, hokv2⟩, hpl, htl1, htl, by dsimp only; omega, htf⟩, hxi⟩ 4 rfl rfl rfl rfl rfl (fun w hh => hh.sublist ?_); (repeat (first | exact List.Sublist.refl _ | refine List.Sublist.cons_cons _ ?_ | refine List.Sublist.cons _ ?_)); done
  · try exact Bool.noConfusion hc
    all_goals
     try replace hc := of_decide_eq_false hc
     try (exfalso; contradiction)
     all_goals
      refine G.skip (G.thenN (G.seq (G.region (G.v (rv_loadW 0 rfl rfl rfl) rfl ?_)))); refine G.op0 (og_st5 rfl rfl rfl rfl rfl (by repeat (first | rfl | refine one_cons (by first | rfl | assumption) ?_)) (.zero (.cons (.cons (.cons (.cons (.cons (.cons (.cons (.cons (.cons (.cons .nil)))))))))))) (fun _ _ => ?_); refine G.done (G.thenN (G.ret ?_))
      (refine G.frontB5 bk2 rfl ?_); (refine G.frontB5 cb rfl ?_); (refine G.frontR5 pv rfl ?_); (refine G.frontR5 tv rfl ?_); (refine G.frontR5 iv rfl ?_); refine G.retFc ((⟨_, ⟨_, _, _, _⟩, _, ps, ty, _, its⟩, pv, tv, iv), xi, xh) ⟨⟨⟨hopv, hotv, hoiv⟩, hpl, htl1, htl, hil, htf⟩, hxi⟩ 4 rfl rfl rfl rfl rfl (fun w hh => hh.sublist ?_); (repeat (first | exact List.Sublist.refl _ | refine List.Sublist.cons_cons _ ?_ | refine List.Sublist.cons _ ?_)); done
end Go.Proofs.YtibkggjbkgdnkaaGreat

/-
  Orders and units, as the draws hand them out.
-/
namespace Go.Proofs.YtibkggjbkgdnkaaGreat
open Go.RowKit
theorem two_eqD {a a' b b' : Ch} {F : List Ch} (h1 : a = a') (h2 : b = b') : a :: b :: F = [a', b'] ++ F := by subst h1 h2; rfl
theorem G.keep2D {n : Nat} {w0 : World} {fr : Fr} {H : List Ch} (m : Nat) {c1 c2 : Ch} {J : List Ch} {K : Act → World → Prop} (hH : H = c1 :: c2 :: J) (h : G n w0 fr (c1 :: c2 :: J.drop m) K) : G n w0 fr H K := by
  subst hH
  exact G.heap (fun w hh => hh.sublist (List.Sublist.cons_cons _ (List.Sublist.cons_cons _ (List.drop_sublist _ _)))) h
theorem og_callF4 {P : Program} {n : Nat} {w0 : World} {fr : Fr} {H : List Ch} {f : FuncId} [hF : FnOk P f] {fo : Operand} {xs : List Operand} {vs caps : List Value} {ts : Array TypeId} {X : Type} {φ : X → Prop} {rv : X → Value} {o1 o2 o3 o4 : X → Ch} (hf : opv fr fo = some (.func (.func f) #[] caps.toArray)) (hx : opvs fr xs = some vs) (hc : ∀ w, HeapOk w0 w H → Fn P f (vs ++ caps) w φ rv (fun x => [o1 x, o2 x, o3 x, o4 x])) :
    OpG P n w0 fr H (.call ⟨.value fo, xs.toArray, ts⟩) φ rv (fun x => o1 x :: o2 x :: o3 x :: o4 x :: H) := og_callF hf hx hc
/-- What is known of a drawn order: its parts lie in rows; the pairs may be read past a row's front. -/
def DrawnOk (x : (ReqM × Value × Value × Value) × Value × List (List Value)) : Prop :=
  (x.1.2.1.oneCell' = true ∧ x.1.2.2.1.oneCell' = true ∧ x.1.2.2.2.oneCell' = true) ∧ (∀ w, Rd w x.2.1 2 x.2.2 → Rd w x.1.2.1 2 (x.1.1.pairs.map PairM.cells)) ∧ x.1.1.pairs.length ≤ 33 ∧ x.1.1.types.length ≤ 9 ∧ x.1.1.items.length ≤ 7 ∧ TyFar x.1.1.types
attribute [local irreducible] Go.wpList Go.Code.wp Go.Exit.then Go.Exit.inBlock Go.bodyPost Go.Calls pE pB G RunsV FnV Fn FnM
set_option maxRecDepth 100000
set_option maxHeartbeats 4000000
theorem drawClass_any {v : Value} {l : List Int} (w : World) (hv : Rd w v 1 (l.map bcell)) : Fn Tryz.prog 219 [v] w (fun x : (ReqM × Value × Value × Value) × Value × List (List Value) => DrawnOk x)
    (fun x => .agg (x.1.1.cells x.1.2.1 x.1.2.2.1 x.1.2.2.2).toArray) (fun x => [.row x.1.2.2.2 106 7 (x.1.1.items.map ItemM.cells), .row x.1.2.2.1 82 7 (x.1.1.types.map TypeM.cells), .row x.2.1 145 2 x.2.2]) := by
  refine Fn.of (n := 12) Tryz.func219 rfl rfl ?_; refine G.seq (G.region ?_); refine G.op (og_alloc) rfl (fun bk2 _ => ?_); refine G.done (G.thenN (G.seq (G.region (G.v (rv_move rfl) rfl ?_))))
  (refine G.op (og_callF1 rfl rfl (fun w hh => l1New_any w (by exact Rd.stays (by assumption) _ hh))) rfl ?_; rintro ⟨cb, ch⟩ _; try dsimp only)
  have h0 : (0 : Nat) ≤ l.length := Nat.zero_le _
  refine G.v (rv_assign rfl) rfl (G.done (G.thenN (G.seq (G.seq (G.region (G.v (rv_move rfl) rfl ?_))))))
  (refine G.op (og_callM0 rfl rfl rfl (l1Once_any _ (by assumption) (by assumption)).toF) rfl ?_; rintro ⟨xr, xi, xh⟩ hxi; try dsimp only)
  refine G.done (G.thenN ?_); refine G.cond rfl (fun hc => ?_) (fun hc => ?_)
  · try exact Bool.noConfusion hc
    all_goals
     try replace hc := of_decide_eq_true hc
     try (exfalso; contradiction)
     all_goals
      refine G.seq (G.region (G.v (rv_move rfl) rfl ?_))
      (refine G.frontB0 cb rfl ?_); refine G.op (og_callN0 rfl rfl rfl (l5Good_any (by assumption) (by assumption)).toF) rfl ?_; rintro ⟨⟨r, pv, tv, iv⟩, xi, xh⟩ ⟨⟨⟨hopv, hotv, hoiv⟩, hpl, htl1, htl, hil, htf⟩, hxi⟩; try dsimp only
      refine G.op0 (og_st4 rfl rfl rfl rfl rfl (by repeat (first | rfl | refine one_cons (by first | rfl | assumption) ?_)) (.zero (.cons (.cons (.cons (.cons (.cons (.cons (.cons (.cons (.cons (.cons .nil)))))))))))) (fun _ _ => ?_); refine G.done (G.thenN (G.ret (G.thenR ?_)))
      (refine G.frontB4 bk2 rfl ?_); (refine G.frontR3 pv rfl ?_); (refine G.frontR3 tv rfl ?_); (refine G.frontR3 iv rfl ?_); refine G.retFc ((r, pv, tv, iv), pv, r.pairs.map PairM.cells) ⟨⟨hopv, hotv, hoiv⟩, fun _ h => h, Nat.le_trans hpl (by decide), Nat.le_trans htl (by decide), Nat.le_trans hil (by decide), htf⟩ 3 rfl rfl rfl rfl rfl (fun w hh => hh.sublist ?_); (repeat (first | exact List.Sublist.refl _ | refine List.Sublist.cons_cons _ ?_ | refine List.Sublist.cons _ ?_)); done
  · try exact Bool.noConfusion hc
    all_goals
     try replace hc := of_decide_eq_false hc
     try (exfalso; contradiction)
     all_goals
      refine G.skip (G.thenN (G.seq (G.region (G.v (rv_move rfl) rfl ?_))))
      (refine G.frontB0 cb rfl ?_); refine G.op (og_callN0 rfl rfl rfl (l2Draw_any (by assumption) (by assumption)).toF) rfl ?_; rintro ⟨⟨⟨r, pv, tv, iv⟩, pv0, es0⟩, xi, xh⟩ ⟨⟨⟨hopv, hotv, hoiv⟩, hrd, hpl, htl, hil, htf⟩, hxi⟩; try dsimp only
      refine G.op0 (og_st4 rfl rfl rfl rfl rfl (by repeat (first | rfl | refine one_cons (by first | rfl | assumption) ?_)) (.zero (.cons (.cons (.cons (.cons (.cons (.cons (.cons (.cons (.cons (.cons .nil)))))))))))) (fun _ _ => ?_); refine G.done (G.thenN (G.ret ?_))
      (refine G.frontB4 bk2 rfl ?_); (refine G.frontR3 pv0 rfl ?_); (refine G.frontR3 tv rfl ?_); (refine G.frontR3 iv rfl ?_); refine G.retFc ((r, pv, tv, iv), pv0, es0) ⟨⟨hopv, hotv, hoiv⟩, hrd, hpl, htl, hil, htf⟩ 3 rfl rfl rfl rfl rfl (fun w hh => hh.sublist ?_); (repeat (first | exact List.Sublist.refl _ | refine List.Sublist.cons_cons _ ?_ | refine List.Sublist.cons _ ?_)); done
theorem l6List_any {v : Value} {l : List Int} (w : World) (hv : Rd w v 1 (l.map bcell)) : Fn Tryz.prog 181 [v] w (fun x : ((ReqM × Value × Value × Value) × Value × List (List Value)) × Value × List Int => DrawnOk x.1 ∧ x.2.1.oneCell' = true ∧ x.2.2.length ≤ 5)
    (fun x => .tuple #[.agg (x.1.1.1.cells x.1.1.2.1 x.1.1.2.2.1 x.1.1.2.2.2).toArray, x.2.1]) (fun x => [.row x.2.1 3 1 (x.2.2.map icell), .row x.1.1.2.2.2 106 7 (x.1.1.1.items.map ItemM.cells), .row x.1.1.2.2.1 82 7 (x.1.1.1.types.map TypeM.cells), .row x.1.2.1 145 2 x.1.2.2]) := by
  refine Fn.of (n := 29) Tryz.func181 rfl rfl ?_; refine G.seq (G.region ?_); refine G.op (og_alloc) rfl (fun bk2 _ => ?_); refine G.v (rv_assign rfl) rfl (G.done (G.thenN (G.seq (G.region (G.v (rv_move rfl) rfl ?_)))))
  (refine G.op (og_callF3 rfl rfl (fun w hh => drawClass_any w (by exact Rd.stays (by assumption) _ hh))) rfl ?_; rintro ⟨⟨r, pv, tv, iv⟩, pv0, es0⟩ hdr; try dsimp only)
  have hopv := hdr.1.1; have hotv := hdr.1.2.1; have hoiv := hdr.1.2.2; dsimp only at hopv hotv hoiv
  refine G.op (og_alloc) rfl (fun bk4 _ => ?_); refine G.op0 (og_st0 rfl rfl rfl rfl rfl (by repeat (first | rfl | refine one_cons (by first | rfl | assumption) ?_)) (.zero (.cons (.cons (.cons (.cons (.cons (.cons (.cons (.cons (.cons (.cons .nil)))))))))))) (fun _ _ => ?_); refine G.done (G.thenN (G.seq (G.region (G.v (rv_move rfl) rfl ?_))))
  (refine G.op (og_callF1 rfl rfl (fun w hh => l1New_any w (by exact Rd.stays (by assumption) _ hh))) rfl ?_; rintro ⟨cb, ch⟩ _; try dsimp only)
  have h0 : (0 : Nat) ≤ l.length := Nat.zero_le _
  refine G.v (rv_assign rfl) rfl (G.done (G.thenN (G.seq (G.region ?_)))); refine G.op (og_lit rfl .nil rfl rfl rfl rfl rfl rfl) rfl (fun ov _ => ?_); refine G.know (fun w hw => (Rd.owned 0 rfl (v := ov) w hw).one_) (fun hoov => ?_); refine G.v (rv_assign rfl) rfl (G.done (G.thenN (G.seq (G.region (G.v (rv_move rfl) rfl ?_)))))
  (refine G.op (og_callM1 rfl rfl rfl (l1Below_any _ (by assumption) (by assumption)).toF) rfl ?_; rintro ⟨xr, xi, xh⟩ ⟨⟨hx0, hx1⟩, hxi⟩; try dsimp only)
  obtain ⟨n, rfl⟩ := Int.eq_ofNat_of_zero_le hx0; have hn5 : n ≤ 5 := (by omega)
  refine G.v (rv_assign rfl) rfl (G.done (G.thenN (G.seq (G.seq (G.region (G.v (rv_assign rfl) rfl (G.done (G.thenN (G.block ?_)))))))))
  -- loop 0: turned [6, 8], kept [2, 4, 5, 7]
  refine G.frontB0 cb rfl ?_; refine G.frontR1 ov rfl ?_; refine G.loopK (ι := Nat × Value × List Int × Nat × Int) (ks := [2, 4, 5, 7]) (fun x => [(6, x.2.1), (8, .int .i64 (x.1 : Int))]) (fun x => [.row x.2.1 3 1 (x.2.2.1.map icell), .blk cb 184 [v, .int .i64 x.2.2.2.1, .int .i64 x.2.2.2.2]]) (fun x => (x.1 ≤ n ∧ x.2.2.1.length ≤ x.1 ∧ x.2.1.oneCell' = true) ∧ x.2.2.2.1 ≤ l.length) (fun x => n - x.1) (0, ov, [], _, _) (.cons rfl (.cons rfl (.cons rfl (.cons rfl (.nil))))) rfl ?_ ?_ ?_
  · exact ⟨⟨Nat.zero_le _, Nat.le_refl _, hoov⟩, by assumption⟩
  · exact ⟨rfl, rfl, trivial⟩
  rintro ⟨k, ov2, us, xi, xh⟩ ⟨⟨hk, hul, hoov2⟩, hxi⟩
  dsimp only at hk hul hoov2 hxi ⊢
  have hul3 : (us.map icell).length = us.length := List.length_map ..
  all_goals
   refine G.seq (G.seq (G.region (G.v (rv_move rfl) rfl (G.v (rv_move rfl) rfl (G.v (rv_lss rfl rfl) rfl (G.done (G.thenN ?_))))))); refine G.cond rfl (fun hc => ?_) (fun hc => ?_)
   · try exact Bool.noConfusion hc
     all_goals
      try replace hc := of_decide_eq_true hc
      try (exfalso; contradiction)
      all_goals
       refine G.skip (G.thenN (G.seq (G.block (G.region (G.v (rv_move rfl) rfl (G.v (rv_move rfl) rfl ?_))))))
       (refine G.op (og_callM1 rfl rfl rfl (l1Below_any _ (by assumption) (by assumption)).toF) rfl ?_; rintro ⟨xb, xi, xh⟩ ⟨⟨hy0, hy1⟩, hxi⟩; try dsimp only)
       refine G.v (rv_subB rfl rfl (by omega) (by omega)) rfl ?_; refine G.op (og_lit rfl (.cons rfl .nil) rfl rfl rfl rfl rfl rfl) rfl (fun vx _ => ?_); refine G.op (og_app2 rfl rfl rfl (by exact Rd.owned 0 rfl) rfl rfl (by (simp; omega)) (by (simp; omega))) rfl (fun ov3 _ => ?_); refine G.know (fun w hw => by exact (Rd.owned 2 rfl (v := ov3) w hw).one_) (fun hoov3 => ?_); refine G.v (rv_assign rfl) rfl (G.done (G.inN (G.thenN (G.region (G.v (rv_move rfl) rfl ?_))))); refine G.v (rv_incr rfl rfl (by omega)) rfl ?_; refine G.v (rv_assign rfl) rfl (G.done ?_); refine G.frontB1 cb rfl ?_; refine G.frontR2 ov3 rfl ?_
       (refine G.keep2D 1 rfl ?_; refine G.backK (k + 1, ov3, us ++ [xb - 1], _, _) 0 (two_eqD (congrArg (fun z => Ch.row ov3 3 1 z) (by rw [List.map_append]; rfl)) rfl) (.cons rfl (.cons rfl (.cons rfl (.cons rfl (.nil))))) ?_ ?_ ?_)
       · exact ⟨rfl, rfl, trivial⟩
       · exact ⟨⟨by dsimp only; omega, by dsimp only; (try simp only [List.length_append, List.length_cons, List.length_nil]); omega, hoov3⟩, by assumption⟩
       · dsimp only; omega
   · try exact Bool.noConfusion hc
     all_goals
      try replace hc := of_decide_eq_false hc
      try (exfalso; contradiction)
      all_goals
       refine G.exit (G.thenX (G.thenX (G.inX (G.thenN (G.seq (G.region (G.v (rv_loadW 2 rfl rfl rfl) rfl (G.v (rv_move rfl) rfl ?_)))))))); refine G.op0 (og_st6 rfl rfl rfl rfl rfl (by repeat (first | rfl | refine one_cons (by first | rfl | assumption) ?_)) (.zero (.cons (.cons (.cons (.cons (.cons (.cons (.cons (.cons (.cons (.cons .nil)))))))))))) (fun _ _ => ?_); refine G.v (rv_assign rfl) rfl (G.done (G.thenN (G.ret ?_))); refine G.frontB6 bk2 rfl ?_; refine G.frontR6 pv0 rfl ?_; refine G.frontR6 tv rfl ?_; refine G.frontR6 iv rfl ?_; refine G.frontR4 ov2 rfl ?_; refine G.retL (((r, pv, tv, iv), pv0, es0), ov2, us) ⟨hdr, hoov2, by dsimp only; omega⟩ rfl (.cons (.cell 4 rfl rfl rfl) (.cons (.tmp rfl) .nil)) rfl (fun w hh => hh.sublist ?_)
       repeat (first | exact List.Sublist.refl _ | refine List.Sublist.cons_cons _ ?_ | refine List.Sublist.cons _ ?_)
end Go.Proofs.YtibkggjbkgdnkaaGreat

/-
  An order and some of its units, as the draws hand them out.
-/
namespace Go.Proofs.YtibkggjbkgdnkaaGreat
open Go.RowKit
attribute [local irreducible] Go.wpList Go.Code.wp Go.Exit.then Go.Exit.inBlock Go.bodyPost Go.Calls pE pB G RunsV FnV Fn FnM
set_option maxRecDepth 100000
set_option maxHeartbeats 4000000
theorem l7Some_any {v : Value} {l : List Int} (w : World) (hv : Rd w v 1 (l.map bcell)) : Fn Tryz.prog 129 [v] w (fun x : ((ReqM × Value × Value × Value) × Value × List (List Value)) × Value × List Int => DrawnOk x.1 ∧ x.2.1.oneCell' = true ∧ x.2.2.length ≤ 48)
    (fun x => .tuple #[.agg (x.1.1.1.cells x.1.1.2.1 x.1.1.2.2.1 x.1.1.2.2.2).toArray, x.2.1]) (fun x => [.row x.2.1 3 1 (x.2.2.map icell), .row x.1.1.2.2.2 106 7 (x.1.1.1.items.map ItemM.cells), .row x.1.1.2.2.1 82 7 (x.1.1.1.types.map TypeM.cells), .row x.1.2.1 145 2 x.1.2.2]) := by
  refine Fn.of (n := 23) Tryz.func129 rfl rfl ?_; refine G.seq (G.region ?_); refine G.op (og_alloc) rfl (fun bk2 _ => ?_); refine G.v (rv_assign rfl) rfl (G.done (G.thenN (G.seq (G.region (G.v (rv_move rfl) rfl ?_)))))
  (refine G.op (og_callF4 rfl rfl (fun w hh => l6List_any w (by exact Rd.stays (by assumption) _ hh))) rfl ?_; rintro ⟨⟨⟨r, pv, tv, iv⟩, pv0, es0⟩, lv, us⟩ ⟨hdr, holv, hul⟩; try dsimp only)
  have hopv := hdr.1.1; have hotv := hdr.1.2.1; have hoiv := hdr.1.2.2; dsimp only at hopv hotv hoiv
  refine G.v (rv_move rfl) rfl (G.v (rv_extract rfl rfl) rfl (G.v (rv_extract rfl rfl) rfl ?_)); refine G.op (og_alloc) rfl (fun bk4 _ => ?_); refine G.op0 (og_st0 rfl rfl rfl rfl rfl (by repeat (first | rfl | refine one_cons (by first | rfl | assumption) ?_)) (.zero (.cons (.cons (.cons (.cons (.cons (.cons (.cons (.cons (.cons (.cons .nil)))))))))))) (fun _ _ => ?_); refine G.v (rv_assign rfl) rfl (G.done (G.thenN (G.seq (G.region (G.v (rv_move rfl) rfl ?_)))))
  (refine G.op (og_callF1 rfl rfl (fun w hh => l1New_any w (by exact Rd.stays (by assumption) _ hh))) rfl ?_; rintro ⟨cb, ch⟩ _; try dsimp only)
  have h0 : (0 : Nat) ≤ l.length := Nat.zero_le _
  refine G.v (rv_assign rfl) rfl (G.done (G.thenN (G.seq (G.seq (G.region (G.v (rv_move rfl) rfl ?_))))))
  (refine G.op (og_callM0 rfl rfl rfl (l1Once_any _ (by assumption) (by assumption)).toF) rfl ?_; rintro ⟨xr, xi, xh⟩ hxi; try dsimp only)
  refine G.done (G.thenN ?_); refine G.cond rfl (fun hc => ?_) (fun hc => ?_)
  · try exact Bool.noConfusion hc
    all_goals
     try replace hc := of_decide_eq_true hc
     try (exfalso; contradiction)
     all_goals
      refine G.seq (G.region (G.v (rv_loadW 1 rfl rfl rfl) rfl (G.v (rv_move rfl) rfl ?_))); refine G.op0 (og_st6 rfl rfl rfl rfl rfl (by repeat (first | rfl | refine one_cons (by first | rfl | assumption) ?_)) (.zero (.cons (.cons (.cons (.cons (.cons (.cons (.cons (.cons (.cons (.cons .nil)))))))))))) (fun _ _ => ?_); refine G.v (rv_assign rfl) rfl (G.done (G.thenN (G.ret (G.thenR ?_))))
      (refine G.frontB6 bk2 rfl ?_); (refine G.frontR6 pv0 rfl ?_); (refine G.frontR6 tv rfl ?_); (refine G.frontR6 iv rfl ?_); (refine G.frontR6 lv rfl ?_); refine G.retL (((r, pv, tv, iv), pv0, es0), lv, us) ⟨hdr, holv, Nat.le_trans hul (by decide)⟩ rfl (.cons (.cell 4 rfl rfl rfl) (.cons (.tmp rfl) .nil)) rfl (fun w hh => hh.sublist ?_); (repeat (first | exact List.Sublist.refl _ | refine List.Sublist.cons_cons _ ?_ | refine List.Sublist.cons _ ?_)); done
  · try exact Bool.noConfusion hc
    all_goals
     try replace hc := of_decide_eq_false hc
     try (exfalso; contradiction)
     all_goals
      refine G.skip (G.thenN (G.seq ?_)); refine G.frontB0 cb rfl ?_; refine G.frontB6 bk2 rfl ?_; refine G.drawD2 [6] rfl ?_; refine GE.q2 0 rfl (by as_aux_lemma => kernel_rfl) rfl (qg_runs (rv_loadW 0 rfl rfl rfl)) (fun _ h => by exact h.drop 2) rfl ?_; refine GE.q2 1 rfl (by as_aux_lemma => kernel_rfl) rfl (qg_runs (rv_loadW 0 rfl rfl rfl)) (fun _ h => by exact h.drop 2) rfl ?_; refine GE.ol 2 (by as_aux_lemma => kernel_rfl) rfl rfl (og_runs (rv_move rfl)) rfl (fun _ _ h => by exact h.drop 2) (fun _ _ => ?_)
      (refine GE.ol 3 (by as_aux_lemma => kernel_rfl) rfl rfl (og_callM1 rfl rfl rfl (l1Below_any _ (by assumption) (by assumption)).toF) rfl (fun _ _ h => by exact h.drop 2) ?_; rintro ⟨xr, xi, xh⟩ ⟨⟨hx0, hx1⟩, hxi⟩; try dsimp only)
      (refine GE.ol 4 (by as_aux_lemma => kernel_rfl) rfl rfl (og_callF1 rfl rfl (fun w hh => sunitsOf_any (r := r) w (hdr.2.1 _ (by exact Rd.owned 6 rfl _ hh)) (by exact Rd.owned 5 rfl _ hh) (by exact Rd.owned 4 rfl _ hh) _)) rfl (fun _ _ h => by exact h.drop 3) ?_; rintro uv2 houv2; try dsimp only)
      refine GE.ol0 5 (by as_aux_lemma => kernel_rfl) rfl rfl (og_st2 rfl rfl rfl rfl rfl (by repeat (first | rfl | refine one_cons (by first | rfl | assumption) ?_)) (.zero (.cons (.cons (.cons (.cons (.cons (.cons (.cons (.cons (.cons (.cons .nil)))))))))))) (fun _ _ h => by exact h.drop 3) (fun _ _ => ?_); refine GE.t 6 (by as_aux_lemma => kernel_rfl) rfl rfl rfl (og_runs (rv_assign rfl)) rfl (fun _ _ => ?_); refine GE.done (by as_aux_lemma => kernel_rfl) ?_; refine G.thenN (G.ret ?_)
      (refine G.frontB2 bk2 rfl ?_); (refine G.frontR7 pv0 rfl ?_); (refine G.frontR7 tv rfl ?_); (refine G.frontR7 iv rfl ?_); (refine G.frontR4 uv2 rfl ?_); refine G.rowEq (((unitsOfM r xr).map Int.ofNat).map icell) (by rw [List.map_map]; rfl) rfl ?_; refine G.retL (((r, pv, tv, iv), pv0, es0), uv2, (unitsOfM r xr).map Int.ofNat) ⟨hdr, houv2, by rw [List.length_map]; exact unitsOf_len r xr⟩ rfl (.cons (.cell 4 rfl rfl rfl) (.cons (.tmp rfl) .nil)) rfl (fun w hh => hh.sublist ?_); (repeat (first | exact List.Sublist.refl _ | refine List.Sublist.cons_cons _ ?_ | refine List.Sublist.cons _ ?_)); done
end Go.Proofs.YtibkggjbkgdnkaaGreat

/-
  The cartons of both ways are a packing.
-/
namespace Go.Proofs.YtibkggjbkgdnkaaGreat
end Go.Proofs.YtibkggjbkgdnkaaGreat
