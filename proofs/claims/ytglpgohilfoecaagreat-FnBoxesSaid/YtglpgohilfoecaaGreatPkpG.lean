/-
  Texts of this proof, one behind the other: Draws, DrawR, DrawX, DrawG, DrawC, DrawQ, DrawL, CartsB, NeedW, CostB, BoxesB.
-/
import Derived.Test.YtglpgohilfoecaaGreatPkpA
import Derived.Test.YtglpgohilfoecaaGreatPkpC
import Derived.Test.YtglpgohilfoecaaGreatPkpE
import Derived.Test.YtglpgohilfoecaaGreatPkpF
set_option linter.unusedVariables false
set_option linter.unusedSimpArgs false

/-
  What the draws hand out: numbers in bounds, a cursor that is moved.
-/
namespace Go.Proofs.YtglpgohilfoecaaGreat
open Go.RowKit
attribute [local irreducible] Go.wpList Go.Code.wp Go.Exit.then Go.Exit.inBlock Go.bodyPost Go.Calls pE pB G RunsV FnV Fn FnM
set_option maxRecDepth 100000
set_option maxHeartbeats 4000000

def bcell (z : Int) : List Value := [.int .u8 z]
theorem l1New_any {v : Value} {l : List Int} (w : World) (h : Rd w v 1 (l.map bcell)) : Fn Tryz.prog 123 [v] w (fun _ : Nat × Int => True) (fun x => pB x.1 0) (fun x => [.blk x.1 182 [v, .int .i64 (0 : Nat), .int .i64 x.2]]) := by
  have hle := h.le_map
  have hln : (l.map bcell).length = l.length := by simp
  have hone := h.one_
  refine Fn.of (n := 32) Tryz.func123 rfl rfl ?_; refine G.seq (G.region (G.v (bb rfl) rfl (G.I (G.E (G.seq (G.region (G.v (ba rfl) rfl ?_))))))); refine G.v (bz rfl (by exact Rd.stays (by assumption))) rfl ?_; refine G.v (df rfl rfl) rfl ?_; refine G.v (bb rfl) rfl (G.I (G.E (G.seq (G.seq (G.region (G.v (bb rfl) rfl (G.I (G.E (G.block ?_))))))))); refine G.Y (ι := Nat × Int) (ks := [0]) (fun x => [(3, .int .i64 x.2), (4, .int .i64 x.1)]) (fun _ => []) (fun x => x.1 ≤ l.length) (fun x => l.length - x.1) (0, IntKind.i64.wrap (26583 + ((l.map bcell).length : Int))) (.cons rfl (.nil)) rfl ?_ ?_ ?_
  exact Nat.zero_le _
  exact ⟨rfl, rfl, trivial⟩
  rintro ⟨k, z⟩ hk
  by_cases hlt : k < l.length
  case' pos => (obtain ⟨b, hb⟩ := bn hlt; have he := bt hb bcell)
  all_goals
   refine G.seq (G.seq (G.region (G.v (ba rfl) rfl (G.v (ba rfl) rfl ?_)))); refine G.v (bz rfl (by exact Rd.stays (by assumption))) rfl ?_; refine G.v (br rfl rfl) rfl (G.v (ba rfl) rfl ?_)
   all_goals (((with_reducible refine G.gP rfl rfl (fun hg => ?_) (fun hg => ?_)) <;> (try exact Bool.noConfusion hg) <;> (first | (refine G.gY rfl rfl ?_; refine G.v (ba rfl) rfl ?_) | refine G.gN rfl rfl rfl ?_)))
   all_goals ((first | (refine G.gY rfl rfl ?_; refine G.v (br rfl rfl) rfl ?_) | refine G.gN rfl rfl rfl ?_))
   all_goals ((first | refine G.v (bk rfl rfl) rfl ?_ | refine G.v (bm rfl rfl) rfl ?_))
   all_goals
    refine G.I (G.E ?_); refine G.cond rfl (fun hc => ?_) (fun hc => ?_)
    · try exact Bool.noConfusion hc
      all_goals
       replace hc := of_decide_eq_true hc
       try (exfalso; have hq := of_decide_eq_true hg; simp only [List.length_map] at hq; omega)
       all_goals
        refine G.skip (G.E (G.seq (G.block (G.region (G.v (ba rfl) rfl ?_))))); refine G.v (dy rfl rfl) rfl ?_; refine G.v (ba rfl) rfl (G.v (ba rfl) rfl ?_); refine G.v (bg rfl rfl (by exact Rd.stays (by assumption)) rfl (by assumption)) rfl ?_; refine G.v (bi rfl (by exact Rd.stays (by assumption)) (by assumption) rfl) rfl ?_; refine G.v (du rfl) rfl ?_; refine G.v (df rfl rfl) rfl ?_; refine G.v (df rfl rfl) rfl ?_; refine G.v (rv_and rfl rfl) rfl ?_; refine G.v (bb rfl) rfl (G.I (G.bc (G.E (G.region (G.v (ba rfl) rfl ?_))))); refine G.v (bp rfl rfl (by omega)) rfl ?_; refine G.v (bb rfl) rfl (G.I ?_); refine G.V (k + 1, bits .and .i64 (IntKind.i64.wrap (IntKind.i64.wrap (IntKind.i64.wrap (z * 131) + IntKind.i64.wrap b) + 7)) 1073741823) 0 rfl (.cons rfl (.nil)) ?_ ?_ ?_
        exact ⟨rfl, rfl, trivial⟩
        exact hlt
        omega
    · all_goals
       try replace hc := of_decide_eq_false hc
       try (exfalso; have hq := of_decide_eq_true hg; simp only [List.length_map] at hq; omega)
       all_goals
        refine G.exit (G.L (G.L (G.bn (G.E (G.seq (G.region (G.v (ba rfl) rfl (G.v (ba rfl) rfl ?_)))))))); refine G.v (bJ rfl (.cons (bK (by assumption)) (.cons rfl .nil)) (.cons rfl rfl (.zero (.cons .nil)) (.cons rfl rfl (.succ (.succ (.zero (.cons .nil)))) .nil))) rfl ?_; refine G.op (bE rfl rfl) rfl (fun bk31 _ => ?_); refine G.v (bb rfl) rfl (G.I (G.E (G.ret ?_)))
        exact G.bg (bk31, _) trivial rfl rfl rfl (fun w hw => hw)
theorem dM {w0 : World} {v : Value} {l : List Int} {cb i : Nat} {h : Int} (hv : Rd w0 v 1 (l.map bcell)) (hi : i ≤ l.length) :
    FnM Tryz.prog 206 [pB cb 0] w0 [.blk cb 182 [v, .int .i64 i, .int .i64 h]] (fun x : Int × Nat × Int => (0 ≤ x.1 ∧ x.1 ≤ 255) ∧ x.2.1 ≤ l.length) (fun x => .int .i64 x.1) (fun x => [.blk cb 182 [v, .int .i64 x.2.1, .int .i64 x.2.2]]) := by
  have hle := hv.le_map
  have hone := hv.one_
  refine FnM.of (n := 58) Tryz.func206 rfl rfl (fun F => ?_); refine G.seq (G.region (G.v (bb rfl) rfl (G.I (G.E (G.seq (G.region (G.v (ba rfl) rfl (G.v (ba rfl) rfl (G.v (cg rfl) rfl (G.v (be rfl) rfl (G.v (bf 0 rfl rfl rfl) rfl ?_))))))))))); refine G.v (dy rfl rfl) rfl ?_; refine G.v (df rfl rfl) rfl ?_; refine G.v (cg rfl) rfl (G.v (be rfl) rfl ?_); refine G.bk (bL rfl rfl rfl rfl rfl rfl (.succ (.succ (.zero (.cons .nil))))) (fun _ _ => ?_); refine G.I (G.E (G.seq ?_)); refine G.ba [12] ?_; refine GE.q 0 rfl (by as_aux_lemma => kernel_rfl) rfl (bc (ba rfl)) rfl ?_; refine GE.q 1 rfl (by as_aux_lemma => kernel_rfl) rfl (bc (cg rfl)) rfl ?_; refine GE.q 2 rfl (by as_aux_lemma => kernel_rfl) rfl (bc (be rfl)) rfl ?_; refine GE.q 3 rfl (by as_aux_lemma => kernel_rfl) rfl (bc (bf 0 rfl rfl rfl)) rfl ?_; refine GE.q 4 rfl (by as_aux_lemma => kernel_rfl) rfl (bc (dz rfl rfl (by omega))) rfl ?_; refine GE.V 5 (by as_aux_lemma => kernel_rfl) rfl rfl (bd (ba rfl)) rfl (fun _ _ h => by exact h) (fun _ _ => ?_); refine GE.V 6 (by as_aux_lemma => kernel_rfl) rfl rfl (bd (cg rfl)) rfl (fun _ _ h => by exact h) (fun _ _ => ?_)
  refine GE.V 7 (by as_aux_lemma => kernel_rfl) rfl rfl (bd (be rfl)) rfl (fun _ _ h => by exact h) (fun _ _ => ?_); refine GE.V 8 (by as_aux_lemma => kernel_rfl) rfl rfl (bd (bf 0 rfl rfl rfl)) rfl (fun _ _ h => by exact h) (fun _ _ => ?_); refine GE.V 9 (by as_aux_lemma => kernel_rfl) rfl rfl (bd (dz rfl rfl (by omega))) rfl (fun _ _ h => by exact h) (fun _ _ => ?_); refine GE.V 10 (by as_aux_lemma => kernel_rfl) rfl rfl (bd (rv_xor rfl rfl)) rfl (fun _ _ h => by exact h) (fun _ _ => ?_); refine GE.V 11 (by as_aux_lemma => kernel_rfl) rfl rfl (bd (rv_and rfl rfl)) rfl (fun _ _ h => by exact h) (fun _ _ => ?_); refine GE.t 12 (by as_aux_lemma => kernel_rfl) rfl rfl rfl (bd (bb rfl)) rfl (fun _ _ => ?_); refine GE.E (by as_aux_lemma => kernel_rfl) ?_; refine G.E (G.seq (G.seq ?_)); refine G.ba [] ?_; refine GE.q 0 rfl (by as_aux_lemma => kernel_rfl) rfl (bc (ba rfl)) rfl ?_; refine GE.q 1 rfl (by as_aux_lemma => kernel_rfl) rfl (bc (cg rfl)) rfl ?_; refine GE.q 2 rfl (by as_aux_lemma => kernel_rfl) rfl (bc (be rfl)) rfl ?_; refine GE.q 3 rfl (by as_aux_lemma => kernel_rfl) rfl (bc (bf 0 rfl rfl rfl)) rfl ?_; refine GE.V 4 (by as_aux_lemma => kernel_rfl) rfl rfl (bd (ba rfl)) rfl (fun _ _ h => by exact h) (fun _ _ => ?_)
  refine GE.V 5 (by as_aux_lemma => kernel_rfl) rfl rfl (bd (cg rfl)) rfl (fun _ _ h => by exact h) (fun _ _ => ?_); refine GE.V 6 (by as_aux_lemma => kernel_rfl) rfl rfl (bd (be rfl)) rfl (fun _ _ h => by exact h) (fun _ _ => ?_); refine GE.V 7 (by as_aux_lemma => kernel_rfl) rfl rfl (bd (bf 0 rfl rfl rfl)) rfl (fun _ _ h => by exact h) (fun _ _ => ?_); refine GE.V 8 (by as_aux_lemma => kernel_rfl) rfl rfl (bd (bz rfl (by exact Rd.stays (by assumption)))) rfl (fun _ _ h => by exact h) (fun _ _ => ?_); refine GE.V 9 (by as_aux_lemma => kernel_rfl) rfl rfl (bd (br rfl rfl)) rfl (fun _ _ h => by exact h) (fun _ _ => ?_); refine GE.E (by as_aux_lemma => kernel_rfl) ?_; refine G.E ?_; refine G.bd rfl (fun hc => ?_) (fun hc => ?_)
  · rcases Nat.lt_or_ge i l.length with h8 | h8; rotate_left; (exfalso; simp only [List.length_map] at hc; omega); obtain ⟨b, hb⟩ := bn h8; have he := bt hb bcell; have hi2 := get_lt hb
    refine G.seq ?_; refine G.ba [14] ?_; refine GE.q 0 rfl (by as_aux_lemma => kernel_rfl) rfl (bc (ba rfl)) rfl ?_; refine GE.q 1 rfl (by as_aux_lemma => kernel_rfl) rfl (bc (ba rfl)) rfl ?_; refine GE.q 2 rfl (by as_aux_lemma => kernel_rfl) rfl (bc (cg rfl)) rfl ?_; refine GE.q 3 rfl (by as_aux_lemma => kernel_rfl) rfl (bc (be rfl)) rfl ?_; refine GE.q 4 rfl (by as_aux_lemma => kernel_rfl) rfl (bc (bf 0 rfl rfl rfl)) rfl ?_; refine GE.V 5 (by as_aux_lemma => kernel_rfl) rfl rfl (bd (ba rfl)) rfl (fun _ _ h => by exact h) (fun _ _ => ?_); refine GE.V 6 (by as_aux_lemma => kernel_rfl) rfl rfl (bd (cg rfl)) rfl (fun _ _ h => by exact h) (fun _ _ => ?_); refine GE.V 7 (by as_aux_lemma => kernel_rfl) rfl rfl (bd (be rfl)) rfl (fun _ _ h => by exact h) (fun _ _ => ?_); refine GE.V 8 (by as_aux_lemma => kernel_rfl) rfl rfl (bd (bf 0 rfl rfl rfl)) rfl (fun _ _ h => by exact h) (fun _ _ => ?_); refine GE.V 9 (by as_aux_lemma => kernel_rfl) rfl rfl (bd (bg rfl rfl (by exact Rd.stays (by assumption)) rfl (by assumption))) rfl (fun _ _ h => by exact h) (fun _ _ => ?_); refine GE.V 10 (by as_aux_lemma => kernel_rfl) rfl rfl (bd (bi rfl (by exact Rd.stays (by assumption)) (by assumption) rfl)) rfl (fun _ _ h => by exact h) (fun _ _ => ?_)
    refine GE.V 11 (by as_aux_lemma => kernel_rfl) rfl rfl (bd (du rfl)) rfl (fun _ _ h => by exact h) (fun _ _ => ?_); refine GE.V 12 (by as_aux_lemma => kernel_rfl) rfl rfl (bd (df rfl rfl)) rfl (fun _ _ h => by exact h) (fun _ _ => ?_); refine GE.V 13 (by as_aux_lemma => kernel_rfl) rfl rfl (bd (rv_and rfl rfl)) rfl (fun _ _ h => by exact h) (fun _ _ => ?_); refine GE.t 14 (by as_aux_lemma => kernel_rfl) rfl rfl rfl (bd (bb rfl)) rfl (fun _ _ => ?_); refine GE.E (by as_aux_lemma => kernel_rfl) ?_; refine G.E (G.region (G.v (ba rfl) rfl (G.v (ba rfl) rfl (G.v (cg rfl) rfl (G.v (be rfl) rfl (G.v (bf 0 rfl rfl rfl) rfl ?_)))))); refine G.v (bp rfl rfl (by omega)) rfl ?_; refine G.v (cg rfl) rfl (G.v (be rfl) rfl ?_); refine G.bk (bL rfl rfl rfl rfl rfl rfl (.succ (.zero (.cons .nil)))) (fun _ _ => ?_); refine G.I (G.E (G.seq (G.region (G.v (ba rfl) rfl (G.v (bb rfl) rfl (G.I (G.E (G.ret ?_))))))))
    exact G.bg (_, i + 1, _) ⟨and255 _, hi2⟩ rfl rfl rfl (fun w hw => hw)
  refine G.skip (G.E (G.seq (G.region (G.v (ba rfl) rfl (G.v (bb rfl) rfl (G.I (G.E (G.ret ?_))))))))
  exact G.bg (_, i, _) ⟨and255 _, hi⟩ rfl rfl rfl (fun w hw => hw)
theorem bA {w0 : World} {v : Value} {l : List Int} {cb i : Nat} {h : Int} (m : Int) (hv : Rd w0 v 1 (l.map bcell)) (hi : i ≤ l.length) :
    FnM Tryz.prog 146 [pB cb 0, .int .i64 m] w0 [.blk cb 182 [v, .int .i64 i, .int .i64 h]] (fun x : Int × Nat × Int => (0 ≤ x.1 ∧ (0 < m → x.1 < m)) ∧ x.2.1 ≤ l.length) (fun x => .int .i64 x.1) (fun x => [.blk cb 182 [v, .int .i64 x.2.1, .int .i64 x.2.2]]) := by
  refine FnM.of (n := 37) Tryz.func146 rfl rfl (fun F => ?_); refine G.seq (G.region (G.v (bb rfl) rfl (G.I (G.E (G.seq (G.seq (G.region (G.v (ba rfl) rfl (G.v (ci rfl rfl) rfl (G.I (G.E ?_))))))))))); refine G.bd rfl (fun hc => ?_) (fun hc => ?_); refine G.seq (G.region (G.v (bb rfl) rfl (G.I (G.E (G.ret (G.O ?_))))))
  exact G.bg (_, _, _) ⟨⟨Int.le_refl 0, fun h0 => absurd h0 (by omega)⟩, hi⟩ rfl rfl rfl (fun w hw => hw)
  refine G.skip (G.E (G.seq (G.seq (G.region (G.v (ba rfl) rfl (G.v (ci rfl rfl) rfl (G.I (G.E ?_)))))))); refine G.bd rfl (fun hc => ?_) (fun hc => ?_); refine G.seq (G.region (G.v (ba rfl) rfl ?_)); refine G.op (bG rfl rfl rfl (dM (by assumption) (by assumption)).toF) rfl ?_; rintro ⟨xr, xi, xh⟩ ⟨⟨hx0, hx1⟩, hxi⟩; try dsimp only
  refine G.v (ba rfl) rfl ?_; refine G.v (rv_rem rfl rfl (by omega)) rfl ?_; refine G.v (bb rfl) rfl (G.I (G.E (G.ret (G.O ?_))))
  exact G.bg (_, _, _) ⟨⟨Int.tmod_nonneg _ (by omega), fun _ => Int.tmod_lt_of_pos _ (by omega)⟩, by assumption⟩ rfl rfl rfl (fun w hw => hw)
  refine G.skip (G.E (G.seq (G.region (G.v (ba rfl) rfl ?_)))); refine G.op (bG rfl rfl rfl (dM (by assumption) (by assumption)).toF) rfl ?_; rintro ⟨xr, xi, xh⟩ ⟨⟨hx0, hx1⟩, hxi⟩; try dsimp only
  refine G.v (bb rfl) rfl (G.I (G.E (G.seq (G.region (G.v (ba rfl) rfl ?_))))); refine G.op (bG rfl rfl rfl (dM (by assumption) (by assumption)).toF) rfl ?_; rintro ⟨xr, xi, xh⟩ ⟨⟨hx0, hx1⟩, hxi⟩; try dsimp only
  refine G.v (bb rfl) rfl (G.I (G.E (G.seq (G.region (G.v (ba rfl) rfl ?_))))); refine G.op (bG rfl rfl rfl (dM (by assumption) (by assumption)).toF) rfl ?_; rintro ⟨xr, xi, xh⟩ ⟨⟨hx0, hx1⟩, hxi⟩; try dsimp only
  refine G.v (bb rfl) rfl (G.I (G.E (G.seq (G.region (G.v (ba rfl) rfl ?_))))); refine G.op (bG rfl rfl rfl (dM (by assumption) (by assumption)).toF) rfl ?_; rintro ⟨xr, xi, xh⟩ ⟨⟨hx0, hx1⟩, hxi⟩; try dsimp only
  refine G.v (bb rfl) rfl (G.I (G.E (G.seq (G.region (G.v (ba rfl) rfl ?_))))); refine G.v (rv_mulB rfl rfl (by omega) (by omega)) rfl ?_; refine G.v (ba rfl) rfl ?_; refine G.v (rv_mulB rfl rfl (by omega) (by omega)) rfl ?_; refine G.v (bD rfl rfl (by omega) (by omega)) rfl ?_; refine G.v (ba rfl) rfl ?_; refine G.v (rv_mulB rfl rfl (by omega) (by omega)) rfl ?_; refine G.v (bD rfl rfl (by omega) (by omega)) rfl ?_; refine G.v (ba rfl) rfl ?_; refine G.v (bD rfl rfl (by omega) (by omega)) rfl ?_; refine G.v (ba rfl) rfl ?_; refine G.v (rv_rem rfl rfl (by omega)) rfl ?_; refine G.v (bb rfl) rfl (G.I (G.E (G.ret ?_)))
  exact G.bg (_, _, _) ⟨⟨Int.tmod_nonneg _ (by omega), fun _ => Int.tmod_lt_of_pos _ (by omega)⟩, by assumption⟩ rfl rfl rfl (fun w hw => hw)
theorem l1Once_any {w0 : World} {v : Value} {l : List Int} {cb i : Nat} {h : Int} (m : Int) (hv : Rd w0 v 1 (l.map bcell)) (hi : i ≤ l.length) :
    FnM Tryz.prog 124 [pB cb 0, .int .i64 m] w0 [.blk cb 182 [v, .int .i64 i, .int .i64 h]] (fun x : Bool × Nat × Int => x.2.1 ≤ l.length) (fun x => .bool x.1) (fun x => [.blk cb 182 [v, .int .i64 x.2.1, .int .i64 x.2.2]]) := by
  refine FnM.of (n := 9) Tryz.func124 rfl rfl (fun F => ?_); refine G.seq (G.region (G.v (bb rfl) rfl (G.I (G.E (G.seq (G.region (G.v (ba rfl) rfl (G.v (ba rfl) rfl ?_)))))))); refine G.op (bG rfl rfl rfl (bA _ (by assumption) (by assumption)).toF) rfl ?_; rintro ⟨xr, xi, xh⟩ ⟨⟨hx0, hx1⟩, hxi⟩; try dsimp only
  refine G.v (bQ rfl rfl) rfl (G.v (bb rfl) rfl (G.I (G.E (G.ret ?_))))
  exact G.bg (_, _, _) hxi rfl rfl rfl (fun w hw => hw)
theorem bM {w0 : World} {F : List Ch} {v : Value} {l : List Int} {cb i : Nat} {h : Int} {u : Value} {es : List (List Value)} (hu : ∀ w, HeapOk w0 w F → Rd w u 1 es) (hn : Nat.ble 1 es.length = true) (hs : es.all (fun e => match e with | [.int .i64 _] => true | _ => false) = true) (hv : Rd w0 v 1 (l.map bcell)) (hi : i ≤ l.length) :
    FnMF Tryz.prog 145 [pB cb 0, u] w0 [.blk cb 182 [v, .int .i64 i, .int .i64 h]] F (fun x : Int × Nat × Int => [.int .i64 x.1] ∈ es ∧ x.2.1 ≤ l.length) (fun x => .int .i64 x.1) (fun x => [.blk cb 182 [v, .int .i64 x.2.1, .int .i64 x.2.2]]) := by
  have hn' := Nat.le_of_ble_eq_true hn
  have hu' : ∀ (c : Ch) w, HeapOk w0 w (c :: F) → Rd w u 1 es := fun c w hh => hu w hh.tail
  refine FnMF.of (n := 12) Tryz.func145 rfl rfl ?_; refine G.seq (G.region (G.v (bb rfl) rfl (G.I (G.E (G.seq (G.region (G.v (ba rfl) rfl (G.v (ba rfl) rfl (G.v (ba rfl) rfl ?_))))))))); refine G.v (bz rfl (hu' _)) rfl ?_; refine G.op (bG rfl rfl rfl (bA _ (by assumption) (by assumption)).toF) rfl ?_; rintro ⟨xr, xi, xh⟩ ⟨⟨hx0, hx1⟩, hxi⟩; try dsimp only
  obtain ⟨k, rfl⟩ := Int.eq_ofNat_of_zero_le hx0; obtain ⟨e, he⟩ := bn (l := es) (k := k) (by omega); have hme := List.mem_of_getElem? he; obtain ⟨z, rfl⟩ := pick_int (List.all_eq_true.1 hs e hme)
  refine G.v (bg rfl rfl (hu' _) rfl (by assumption)) rfl ?_; refine G.v (bi rfl (hu' _) (by assumption) rfl) rfl ?_; refine G.v (bb rfl) rfl (G.I (G.E (G.ret ?_)))
  exact G.bg (z, _, _) ⟨hme, hxi⟩ rfl rfl rfl (fun w hw => hw)
theorem big_any {v : Value} {l : List Int} (w : World) (h : Rd w v 1 (l.map bcell)) : FnV Tryz.prog 18 [v] w (.bool (decide (((l.map bcell).length : Int) > 1048576))) := by
  refine FnV.of (n := 6) Tryz.func18 rfl rfl ?_; refine G.seq (G.region (G.v (bb rfl) rfl (G.I (G.E (G.seq (G.region (G.v (ba rfl) rfl ?_))))))); refine G.v (bz rfl (by exact Rd.stays (by assumption))) rfl ?_; refine G.v (b6 rfl rfl) rfl (G.v (bb rfl) rfl (G.I (G.E (G.ret ?_))))
  exact G.U rfl rfl rfl
end Go.Proofs.YtglpgohilfoecaaGreat

/-
  Orders that the draws hand out.
-/
namespace Go.Proofs.YtglpgohilfoecaaGreat
open Go.RowKit
theorem GE.L {P : Program} {ops : Array Oper} {Q : Exit → Act → World → Prop} {qs : List Nat} {n : Nat} {w0 : World} {HC : List Ch} {f : Nat} {listed : Array Bool} {fr : Fr} {H : List Ch} {p : Prop} (hp : ∀ w, HeapOk w0 w H → p) (h : p → GE P ops Q qs n w0 HC f listed fr H) : GE P ops Q qs n w0 HC f listed fr H := G.know hp h
theorem G.cut {P : Program} {n : Nat} {w0 : World} {fr : Fr} {H : List Ch} {Q : Exit → Act → World → Prop} {K : Act → World → Prop} {ι : Type} {c : Code} {ks : List Nat} {gr : Fr} {H0 : List Ch} (ch : ι → Fr) (hs : ι → List Ch) (pI : ι → Prop) (m0 : Nat) (hk : Keep fr ks gr) (hH0 : H.drop m0 = H0)
    (h1 : G n w0 fr H (c.wp P (Exit.then (fun a w => ∃ i, pI i ∧ Rep n a (ch i ++ gr) ∧ HeapOk w0 w (hs i ++ H0)) Q))) (h2 : ∀ i, pI i → G n w0 (ch i ++ gr) (hs i ++ H0) (Exit.then K Q .normal)) : G n w0 fr H (c.wp P (Exit.then K Q)) := by
  intro a w hr hh
  refine wp_mono (h1 a w hr hh) fun e a' w' hq => ?_
  cases e with
  | normal => obtain ⟨i, h3, h4, h5⟩ := hq; exact h2 i h3 a' w' h4 h5
  | exit id => exact hq
  | goto l => exact hq
  | ret => exact hq
  | panic ch => exact hq
  | outgrown => exact hq
theorem G.cutEnd {n : Nat} {w0 : World} {fr : Fr} {H : List Ch} {Q : Exit → Act → World → Prop} {ι : Type} {ks : List Nat} {gr : Fr} {H0 : List Ch} {ch : ι → Fr} {hs : ι → List Ch} {pI : ι → Prop} (i' : ι) (m : Nat) (hH : H.drop m = hs i' ++ H0) (hk : Keep fr ks gr) (hc : Sub (ch i') fr) (hp : pI i') :
    G n w0 fr H (Exit.then (fun a' w' => ∃ i', pI i' ∧ Rep n a' (ch i' ++ gr) ∧ HeapOk w0 w' (hs i' ++ H0)) Q .normal) :=
  fun _ _ hr hh => ⟨i', hp, hr.sub (Sub.append hc hk.sub), hH ▸ hh.drop m⟩
attribute [local irreducible] Go.wpList Go.Code.wp Go.Exit.then Go.Exit.inBlock Go.bodyPost Go.Calls pE pB G RunsV FnV Fn FnM
set_option maxRecDepth 100000
set_option maxHeartbeats 4000000
theorem de {a a' b b' c c' : Ch} {F : List Ch} (h1 : a = a') (h2 : b = b') (h3 : c = c') : a :: b :: c :: F = [a', b', c'] ++ F := by subst h1 h2 h3; rfl
theorem G.bJ {n : Nat} {w0 : World} {fr : Fr} {H : List Ch} (m : Nat) {c1 c2 c3 : Ch} {J : List Ch} {K : Act → World → Prop} (hH : H = c1 :: c2 :: c3 :: J) (h : G n w0 fr (c1 :: c2 :: c3 :: J.drop m) K) : G n w0 fr H K := G.heap (fun w hh => by subst hH; exact hh.sublist (List.Sublist.cons_cons _ (List.Sublist.cons_cons _ (List.Sublist.cons_cons _ (List.drop_sublist m J))))) h
/-- Drawn types have small numbers and cost little. -/
def TyFar (l : List TypeM) : Prop := ∀ t ∈ l, t.id ≤ 20 ∧ t.cost ≤ 20
theorem TyFar.snoc {l : List TypeM} {t : TypeM} (h : TyFar l) (a : t.id ≤ 20) (b : t.cost ≤ 20) : TyFar (l ++ [t]) := fun s hs => by
  rcases List.mem_append.1 hs with hs | hs
  · exact h s hs
  · rw [List.mem_singleton.1 hs]; exact ⟨a, b⟩
theorem TyFar.one {t : TypeM} (a : t.id ≤ 20) (b : t.cost ≤ 20) : TyFar [t] := fun s hs => by
  rw [List.mem_singleton.1 hs]; exact ⟨a, b⟩
theorem pick_cost {z : Int} (h : [Value.int .i64 z] ∈ [[Value.int .i64 9], [Value.int .i64 20]]) : z ≤ 20 := by
  simp only [List.mem_cons, List.cons.injEq, Value.int.injEq, List.not_mem_nil, or_false, and_true, true_and] at h
  omega
theorem l2Right_any {w0 : World} {v : Value} {l : List Int} {cb i : Nat} {h : Int} (hv : Rd w0 v 1 (l.map bcell)) (hi : i ≤ l.length) :
    FnM Tryz.prog 177 [pB cb 0] w0 [.blk cb 182 [v, .int .i64 i, .int .i64 h]] (fun x : (ReqM × Value × Value × Value) × Nat × Int => ((x.1.2.1.oneCell' = true ∧ x.1.2.2.1.oneCell' = true ∧ x.1.2.2.2.oneCell' = true) ∧ x.1.1.pairs.length ≤ 32 ∧ 1 ≤ x.1.1.types.length ∧ x.1.1.types.length ≤ 8 ∧ x.1.1.items.length ≤ 6 ∧ TyFar x.1.1.types) ∧ x.2.1 ≤ l.length)
      (fun x => .agg (x.1.1.cells x.1.2.1 x.1.2.2.1 x.1.2.2.2).toArray) (fun x => [.row x.1.2.2.2 111 7 (x.1.1.items.map ItemM.cells), .row x.1.2.2.1 56 7 (x.1.1.types.map TypeM.cells), .row x.1.2.1 138 2 (x.1.1.pairs.map PairM.cells), .blk cb 182 [v, .int .i64 x.2.1, .int .i64 x.2.2]]) := by
  refine FnM.of (n := 165) Tryz.func177 rfl rfl (fun F => ?_); refine G.seq (G.region ?_); refine G.op (bu) rfl (fun bk2 _ => ?_); refine G.I (G.E (G.seq (G.region (G.v (ba rfl) rfl ?_)))); refine G.op (bS rfl rfl rfl (bA _ (by assumption) (by assumption)).toF) rfl ?_; rintro ⟨wy, xi, xh⟩ ⟨⟨hx0, hx1⟩, hxi⟩; try dsimp only
  refine G.v (ba rfl) rfl ?_; refine G.op (bq rfl (.cons rfl (.cons rfl (.cons rfl .nil))) rfl rfl rfl rfl rfl rfl) rfl (fun vl _ => ?_); refine G.op (bS rfl rfl rfl (bM (by exact Rd.ba 0 rfl) rfl rfl (by assumption) (by assumption))) rfl ?_; rintro ⟨pw, xi, xh⟩ ⟨hxm, hxi⟩; try dsimp only
  refine G.v (ba rfl) rfl ?_; refine G.op (bq rfl (.cons rfl (.cons rfl (.cons rfl .nil))) rfl rfl rfl rfl rfl rfl) rfl (fun vl _ => ?_); refine G.op (bS rfl rfl rfl (bM (by exact Rd.ba 0 rfl) rfl rfl (by assumption) (by assumption))) rfl ?_; rintro ⟨pd, xi, xh⟩ ⟨hxm, hxi⟩; try dsimp only
  refine G.v (ba rfl) rfl ?_; refine G.op (bq rfl (.cons rfl (.cons rfl (.cons rfl .nil))) rfl rfl rfl rfl rfl rfl) rfl (fun vl _ => ?_); refine G.op (bS rfl rfl rfl (bM (by exact Rd.ba 0 rfl) rfl rfl (by assumption) (by assumption))) rfl ?_; rintro ⟨ph, xi, xh⟩ ⟨hxm, hxi⟩; try dsimp only
  refine G.v (ba rfl) rfl ?_; refine G.op (bq rfl (.cons rfl (.cons rfl (.cons rfl .nil))) rfl rfl rfl rfl rfl rfl) rfl (fun vl _ => ?_); refine G.op (bS rfl rfl rfl (bM (by exact Rd.ba 0 rfl) rfl rfl (by assumption) (by assumption))) rfl ?_; rintro ⟨pg, xi, xh⟩ ⟨hxm, hxi⟩; try dsimp only
  refine G.v (bJ rfl (.cons rfl (.cons rfl (.cons rfl (.cons rfl .nil)))) (.cons rfl rfl (.zero (.cons .nil)) (.cons rfl rfl (.succ (.zero (.cons .nil))) (.cons rfl rfl (.succ (.succ (.zero (.cons .nil)))) (.cons rfl rfl (.succ (.succ (.succ (.zero (.cons .nil))))) .nil))))) rfl ?_; refine G.v (ba rfl) rfl ?_; refine G.op (bG rfl rfl rfl (bA _ (by assumption) (by assumption)).toF) rfl ?_; rintro ⟨cz, xi, xh⟩ ⟨⟨hx0, hx1⟩, hxi⟩; try dsimp only
  obtain ⟨cl, rfl⟩ := Int.eq_ofNat_of_zero_le hx0; have hcl3 : cl ≤ 3 := (by omega)
  refine G.v (bD rfl rfl (by omega) (by omega)) rfl ?_; refine G.v (bJ rfl (.cons rfl (.cons rfl (.cons rfl (.cons rfl .nil)))) (.cons rfl rfl (.zero (.cons .nil)) (.cons rfl rfl (.succ (.zero (.cons (.cons (.cons (.cons .nil)))))) (.cons rfl rfl (.succ (.succ (.succ (.succ (.succ (.zero (.cons .nil))))))) (.cons rfl rfl (.succ (.succ (.succ (.succ (.succ (.succ (.succ (.succ (.zero (.cons .nil)))))))))) .nil))))) rfl ?_; refine G.op (bu) rfl (fun bk3 _ => ?_); refine G.bk (bL rfl rfl rfl rfl rfl (by repeat (rfl)) (.zero (.cons (.cons (.cons (.cons (.cons (.cons (.cons (.cons (.cons (.cons .nil)))))))))))) (fun _ _ => ?_); refine G.I (G.E (G.seq (G.seq (G.region (G.v (bb rfl) rfl (G.I (G.E (G.block ?_)))))))); refine G.heap (fun w hh => hh.nilRow 138 2) ?_; refine G.bx cb rfl ?_; refine G.bm (Value.slice none 0 0) rfl ?_; refine G.bx bk3 rfl ?_
  refine G.Y (ι := Nat × Value × List PairM × Nat × Int) (ks := [0, 2, 3]) (fun x => [(4, .int .i64 (x.1 : Int))]) (fun x => [.blk bk3 41 [.int .i64 wy, .int .i64 pw, .int .i64 pd, .int .i64 ph, .int .i64 pg, .int .i64 (1 + (cl : Int)), x.2.1, .slice none 0 0, .int .i64 7, .slice none 0 0], .row x.2.1 138 2 (x.2.2.1.map PairM.cells), .blk cb 182 [v, .int .i64 x.2.2.2.1, .int .i64 x.2.2.2.2]]) (fun x => (x.1 ≤ cl + 1 ∧ x.2.2.1.length ≤ 8 * x.1) ∧ x.2.2.2.1 ≤ l.length) (fun x => cl + 1 - x.1) (0, .slice none 0 0, [], xi, xh) (.cons rfl (.cons rfl (.cons rfl (.nil)))) rfl ?_ ?_ ?_
  exact ⟨⟨Nat.zero_le _, Nat.zero_le _⟩, hxi⟩
  exact ⟨rfl, trivial⟩
  rintro ⟨a, pv, ps, xi, xh⟩ ⟨⟨ha, hpl⟩, hxi⟩
  dsimp only at ha hpl hxi ⊢
  by_cases hlt : a < cl + 1
  case' neg => (refine G.heap (fun w hh => hh.nilRow 56 7) ?_)
  all_goals
   refine G.seq (G.seq (G.region (G.v (ba rfl) rfl (G.v (be rfl) rfl ?_))))
   first | refine G.v (bf 0 rfl rfl rfl) rfl ?_ | refine G.v (bf 1 rfl rfl rfl) rfl ?_
   refine G.v (br rfl rfl) rfl (G.I (G.E ?_)); refine G.cond rfl (fun hc => ?_) (fun hc => ?_)
   · all_goals
      replace hc := of_decide_eq_true hc
      try (exfalso; omega)
      all_goals
       refine G.skip (G.E (G.seq (G.block (G.seq (G.region (G.v (bb rfl) rfl (G.I (G.E (G.block ?_))))))))); refine G.Y (ι := Nat × Value × List PairM × Nat × Int) (ks := [0, 2, 3, 4]) (fun x => [(5, .int .i64 (x.1 : Int))]) (fun x => [.blk bk3 41 [.int .i64 wy, .int .i64 pw, .int .i64 pd, .int .i64 ph, .int .i64 pg, .int .i64 (1 + (cl : Int)), x.2.1, .slice none 0 0, .int .i64 7, .slice none 0 0], .row x.2.1 138 2 (x.2.2.1.map PairM.cells), .blk cb 182 [v, .int .i64 x.2.2.2.1, .int .i64 x.2.2.2.2]]) (fun x => (x.1 ≤ a + 1 ∧ x.2.2.1.length ≤ 8 * a + 2 * x.1) ∧ x.2.2.2.1 ≤ l.length) (fun x => a + 1 - x.1) (0, pv, ps, xi, xh) (.cons rfl (.cons rfl (.cons rfl (.cons rfl (.nil))))) rfl ?_ ?_ ?_
       exact ⟨⟨Nat.zero_le _, by dsimp only; omega⟩, hxi⟩
       exact ⟨rfl, trivial⟩
       rintro ⟨b, pv2, ps2, xi2, xh2⟩ ⟨⟨hb, hpl2⟩, hxi2⟩
       dsimp only at hb hpl2 hxi2 ⊢
       have hpl3 : (ps2.map PairM.cells).length = ps2.length := by simp
       all_goals
        refine G.seq (G.seq (G.region (G.v (ba rfl) rfl (G.v (ba rfl) rfl (G.v (ci rfl rfl) rfl (G.I (G.E ?_))))))); refine G.cond rfl (fun hc => ?_) (fun hc => ?_)
        · all_goals
           replace hc := of_decide_eq_true hc
           all_goals
            refine G.skip (G.E (G.seq (G.block (G.seq (G.region (G.v (ba rfl) rfl (G.v (ba rfl) rfl (G.v (bQ rfl rfl) rfl (G.I (G.E ?_)))))))))); refine G.cond rfl (fun hc => ?_) (fun hc => ?_)
            · all_goals
               replace hc := of_decide_eq_true hc
               all_goals
                refine G.region (G.v (be rfl) rfl (G.v (bf 0 rfl rfl rfl) rfl (G.v (ba rfl) rfl (G.v (ba rfl) rfl ?_)))); refine G.v (bJ rfl (.cons rfl (.cons rfl .nil)) (.cons rfl rfl (.zero (.cons .nil)) (.cons rfl rfl (.succ (.zero (.cons .nil))) .nil))) rfl ?_; refine G.op (bq rfl (.cons rfl .nil) rfl rfl rfl rfl rfl rfl) rfl (fun vx _ => ?_); refine G.op (cC rfl rfl rfl (by exact Rd.ba 0 rfl) rfl rfl (by (simp; omega)) (by (simp; omega))) rfl (fun va _ => ?_); refine G.know (fun w hw => by exact (Rd.ba 2 rfl (v := va) w hw).one_) (fun hova => ?_); refine G.v (be rfl) rfl ?_; refine G.bk (cf rfl rfl rfl (bK (by assumption)) rfl (by repeat (first | rfl | refine bB (by assumption) ?_)) (.succ (.succ (.succ (.succ (.succ (.succ (.zero (.cons .nil))))))))) (fun _ _ => ?_); refine G.I (G.bc (G.E (G.region (G.v (ba rfl) rfl ?_)))); refine G.v (bp rfl rfl (by omega)) rfl ?_; refine G.v (bb rfl) rfl (G.I ?_); refine G.bH cb rfl ?_; refine G.bi va rfl ?_; refine G.bH bk3 rfl ?_; refine G.bJ 1 rfl ?_; refine G.V (b + 1, va, ps2 ++ [⟨_, _⟩], _, _) 0 (by (exact de rfl (congrArg (fun z => Ch.row va 138 2 z) (by rw [List.map_append]; rfl)) rfl)) (.cons rfl (.cons rfl (.cons rfl (.cons rfl (.nil))))) ?_ ?_ ?_
                exact ⟨rfl, trivial⟩
                exact ⟨⟨by dsimp only; omega, by simp; omega⟩, by assumption⟩
                dsimp only; omega
            · all_goals
               replace hc := of_decide_eq_false hc
               all_goals
                refine G.seq (G.region (G.v (ba rfl) rfl ?_)); refine G.op (dm rfl rfl rfl (l1Once_any _ (by assumption) (by assumption)).toF) rfl ?_; rintro ⟨xr, xi, xh⟩ hxi; try dsimp only
                refine G.I (G.E ?_); refine G.cond rfl (fun hc => ?_) (fun hc => ?_)
                · all_goals
                   all_goals
                    refine G.region (G.v (be rfl) rfl (G.v (bf 1 rfl rfl rfl) rfl (G.v (ba rfl) rfl (G.v (ba rfl) rfl ?_)))); refine G.v (bJ rfl (.cons rfl (.cons rfl .nil)) (.cons rfl rfl (.zero (.cons .nil)) (.cons rfl rfl (.succ (.zero (.cons .nil))) .nil))) rfl ?_; refine G.v (ba rfl) rfl (G.v (ba rfl) rfl ?_); refine G.v (bJ rfl (.cons rfl (.cons rfl .nil)) (.cons rfl rfl (.zero (.cons .nil)) (.cons rfl rfl (.succ (.zero (.cons .nil))) .nil))) rfl ?_; refine G.op (bq rfl (.cons rfl (.cons rfl .nil)) rfl rfl rfl rfl rfl rfl) rfl (fun vx _ => ?_); refine G.op (dt rfl rfl rfl (by exact Rd.ba 0 rfl) rfl rfl (by (simp; omega)) (by (simp; omega))) rfl (fun va _ => ?_); refine G.know (fun w hw => by exact (Rd.ba 3 rfl (v := va) w hw).one_) (fun hova => ?_); refine G.v (be rfl) rfl ?_; refine G.bk (dN rfl rfl rfl (bK (by assumption)) rfl (by repeat (first | rfl | refine bB (by assumption) ?_)) (.succ (.succ (.succ (.succ (.succ (.succ (.zero (.cons .nil))))))))) (fun _ _ => ?_); refine G.I (G.bc (G.E (G.region (G.v (ba rfl) rfl ?_)))); refine G.v (bp rfl rfl (by omega)) rfl ?_; refine G.v (bb rfl) rfl (G.I ?_); refine G.bh cb rfl ?_; refine G.bi va rfl ?_; refine G.bH bk3 rfl ?_
                    refine G.bJ 1 rfl ?_; refine G.V (b + 1, va, ps2 ++ [⟨_, _⟩, ⟨_, _⟩], _, _) 0 (by (exact de rfl (congrArg (fun z => Ch.row va 138 2 z) (by rw [List.map_append]; rfl)) rfl)) (.cons rfl (.cons rfl (.cons rfl (.cons rfl (.nil))))) ?_ ?_ ?_
                    exact ⟨rfl, trivial⟩
                    exact ⟨⟨by dsimp only; omega, by simp; omega⟩, by assumption⟩
                    dsimp only; omega
                · all_goals
                   all_goals
                    refine G.skip (G.bc (G.E (G.region (G.v (ba rfl) rfl ?_)))); refine G.v (bp rfl rfl (by omega)) rfl ?_; refine G.v (bb rfl) rfl (G.I ?_); refine G.bw cb rfl ?_; refine G.be pv2 rfl ?_; refine G.bx bk3 rfl ?_; refine G.bJ 0 rfl ?_; refine G.V (b + 1, pv2, ps2, _, _) 0 (by exact de rfl rfl rfl) (.cons rfl (.cons rfl (.cons rfl (.cons rfl (.nil))))) ?_ ?_ ?_
                    exact ⟨rfl, trivial⟩
                    exact ⟨⟨by dsimp only; omega, by simp; omega⟩, by assumption⟩
                    dsimp only; omega
        · all_goals
           replace hc := of_decide_eq_false hc
           all_goals
            refine G.exit (G.L (G.L (G.bn (G.bc (G.E (G.region (G.v (ba rfl) rfl ?_))))))); refine G.v (bp rfl rfl (by omega)) rfl ?_; refine G.v (bb rfl) rfl (G.I ?_); refine G.V (a + 1, pv2, ps2, xi2, xh2) 0 rfl (.cons rfl (.cons rfl (.cons rfl (.nil)))) ?_ ?_ ?_
            exact ⟨rfl, trivial⟩
            exact ⟨⟨by dsimp only; omega, by dsimp only; omega⟩, hxi2⟩
            dsimp only; omega
   · all_goals
      replace hc := of_decide_eq_false hc
      try (exfalso; omega)
      all_goals
       refine G.exit (G.L (G.L (G.bn (G.E (G.seq ?_))))); refine G.bH cb rfl ?_; refine G.bm (Value.slice none 0 0) rfl ?_; refine G.bx bk3 rfl ?_; refine G.cut (ι := Value × TypeM × Nat × Int) (ks := [0, 2, 3]) (fun _ => []) (fun x => [.blk bk3 41 [.int .i64 wy, .int .i64 pw, .int .i64 pd, .int .i64 ph, .int .i64 pg, .int .i64 (1 + (cl : Int)), pv, x.1, .int .i64 7, .slice none 0 0], .row x.1 56 7 [x.2.1.cells], .blk cb 182 [v, .int .i64 x.2.2.1, .int .i64 x.2.2.2]]) (fun x => (x.1.oneCell' = true ∧ TyFar [x.2.1]) ∧ x.2.2.1 ≤ l.length) 3 (.cons rfl (.cons rfl (.cons rfl (.nil)))) rfl ?_ ?_
       focus
        refine G.bx cb rfl ?_; refine G.be (Value.slice none 0 0) rfl ?_; refine G.drawD2 [13, 14] rfl ?_; refine GE.Y 0 rfl (by as_aux_lemma => kernel_rfl) rfl (bc (be rfl)) (fun _ h => by exact h.drop 2) rfl ?_; refine GE.Y 1 rfl (by as_aux_lemma => kernel_rfl) rfl (bc (bf 0 rfl rfl rfl)) (fun _ h => by exact h.drop 2) rfl ?_; refine GE.Y 2 rfl (by as_aux_lemma => kernel_rfl) rfl (bc (ba rfl)) (fun _ h => by exact h.drop 2) rfl ?_; refine GE.Y 4 rfl (by as_aux_lemma => kernel_rfl) rfl (bc (ba rfl)) (fun _ h => by exact h.drop 2) rfl ?_; refine GE.Y 7 rfl (by as_aux_lemma => kernel_rfl) rfl (bc (ba rfl)) (fun _ h => by exact h.drop 2) rfl ?_; refine GE.any (rs := [3, 5, 8]) (by as_aux_lemma => kernel_rfl) (by simp) ?_; refine List.forall_mem_cons.2 ⟨?_, List.forall_mem_cons.2 ⟨?_, List.forall_mem_cons.2 ⟨?_, fun _ h => absurd h List.not_mem_nil⟩⟩⟩
        focus
         refine GE.I rfl rfl rfl (bS rfl rfl rfl (bA _ (by assumption) (by assumption)).toF) rfl (fun _ _ h => by exact h.drop 2) ?_; rintro ⟨xr, xi, xh⟩ ⟨⟨hx0, hx1⟩, hxi⟩; try dsimp only
         refine GE.any (rs := [5, 8]) (by as_aux_lemma => kernel_rfl) (by simp) ?_; refine List.forall_mem_cons.2 ⟨?_, List.forall_mem_cons.2 ⟨?_, fun _ h => absurd h List.not_mem_nil⟩⟩
         focus
          refine GE.I rfl rfl rfl (bq rfl (.cons rfl (.cons rfl (.cons rfl .nil))) rfl rfl rfl rfl rfl rfl) rfl (fun _ _ h => by exact h.drop 3) (fun vl _ => ?_); refine GE.any (rs := [6, 8]) (by as_aux_lemma => kernel_rfl) (by simp) ?_; refine List.forall_mem_cons.2 ⟨?_, List.forall_mem_cons.2 ⟨?_, fun _ h => absurd h List.not_mem_nil⟩⟩
          focus
           refine GE.I rfl rfl rfl (bS rfl rfl rfl (bM (by exact Rd.ba 0 rfl) rfl rfl (by assumption) (by assumption))) rfl (fun _ _ h => by exact h.drop 3) ?_; rintro ⟨xr, xi, xh⟩ ⟨hxm, hxi⟩; try dsimp only
           refine GE.V 8 (by as_aux_lemma => kernel_rfl) rfl rfl (bq rfl (.cons rfl (.cons rfl .nil)) rfl rfl rfl rfl rfl rfl) rfl (fun _ _ h => by exact h.drop 4) (fun vl _ => ?_); refine GE.V 9 (by as_aux_lemma => kernel_rfl) rfl rfl (bS rfl rfl rfl (bM (by exact Rd.ba 0 rfl) rfl rfl (by assumption) (by assumption))) rfl (fun _ _ h => by exact h.drop 4) ?_; rintro ⟨xr, xi, xh⟩ ⟨hxm, hxi⟩; try dsimp only
           refine GE.V 10 (by as_aux_lemma => kernel_rfl) rfl rfl (bd (bJ rfl (.cons rfl (.cons rfl (.cons rfl (.cons rfl (.cons rfl (.cons rfl (.cons rfl .nil))))))) (.cons rfl rfl (.zero (.cons .nil)) (.cons rfl rfl (.succ (.zero (.cons .nil))) (.cons rfl rfl (.succ (.succ (.zero (.cons .nil)))) (.cons rfl rfl (.succ (.succ (.succ (.zero (.cons .nil))))) (.cons rfl rfl (.succ (.succ (.succ (.succ (.zero (.cons .nil)))))) (.cons rfl rfl (.succ (.succ (.succ (.succ (.succ (.zero (.cons .nil))))))) (.cons rfl rfl (.succ (.succ (.succ (.succ (.succ (.succ (.zero (.cons .nil)))))))) .nil))))))))) rfl (fun _ _ h => by exact h.drop 4) (fun _ _ => ?_); refine GE.V 11 (by as_aux_lemma => kernel_rfl) rfl rfl (bq rfl (.cons rfl .nil) rfl rfl rfl rfl rfl rfl) rfl (fun _ _ h => by exact h.drop 5) (fun vl _ => ?_); refine GE.V 12 (by as_aux_lemma => kernel_rfl) rfl rfl (cZ rfl rfl rfl (by exact Rd.ba 0 rfl) rfl rfl (by (simp; done)) (by (simp; done))) rfl (fun _ _ h => by exact h.drop 5) (fun tv1 _ => ?_)
           skip; refine GE.L (fun w hw => (Rd.ba 4 rfl (v := tv1) w hw).one_) (fun hotv => ?_)
           refine GE.t 13 (by as_aux_lemma => kernel_rfl) rfl rfl rfl (bd (be rfl)) rfl (fun _ _ => ?_); refine GE.U 14 (by as_aux_lemma => kernel_rfl) rfl rfl rfl (dO rfl rfl rfl (bK (by assumption)) rfl (by repeat (first | rfl | refine bB (by assumption) ?_)) (.succ (.succ (.succ (.succ (.succ (.succ (.succ (.zero (.cons .nil)))))))))) (fun _ _ => ?_); refine GE.E (by as_aux_lemma => kernel_rfl) ?_
          rotate_left
          focus
           refine GE.I rfl rfl rfl (bq rfl (.cons rfl (.cons rfl .nil)) rfl rfl rfl rfl rfl rfl) rfl (fun _ _ h => by exact h.drop 4) (fun vl _ => ?_); refine GE.V 6 (by as_aux_lemma => kernel_rfl) rfl rfl (dm rfl rfl rfl (bM (by exact Rd.ba 1 rfl) rfl rfl (by assumption) (by assumption))) rfl (fun _ _ h => by exact h.drop 4) ?_; rintro ⟨xr, xi, xh⟩ ⟨hxm, hxi⟩; try dsimp only
           refine GE.V 9 (by as_aux_lemma => kernel_rfl) rfl rfl (bG rfl rfl rfl (bM (by exact Rd.ba 0 rfl) rfl rfl (by assumption) (by assumption))) rfl (fun _ _ h => by exact h.drop 4) ?_; rintro ⟨xr, xi, xh⟩ ⟨hxm, hxi⟩; try dsimp only
           refine GE.V 10 (by as_aux_lemma => kernel_rfl) rfl rfl (bd (bJ rfl (.cons rfl (.cons rfl (.cons rfl (.cons rfl (.cons rfl (.cons rfl (.cons rfl .nil))))))) (.cons rfl rfl (.zero (.cons .nil)) (.cons rfl rfl (.succ (.zero (.cons .nil))) (.cons rfl rfl (.succ (.succ (.zero (.cons .nil)))) (.cons rfl rfl (.succ (.succ (.succ (.zero (.cons .nil))))) (.cons rfl rfl (.succ (.succ (.succ (.succ (.zero (.cons .nil)))))) (.cons rfl rfl (.succ (.succ (.succ (.succ (.succ (.zero (.cons .nil))))))) (.cons rfl rfl (.succ (.succ (.succ (.succ (.succ (.succ (.zero (.cons .nil)))))))) .nil))))))))) rfl (fun _ _ h => by exact h.drop 4) (fun _ _ => ?_); refine GE.V 11 (by as_aux_lemma => kernel_rfl) rfl rfl (bq rfl (.cons rfl .nil) rfl rfl rfl rfl rfl rfl) rfl (fun _ _ h => by exact h.drop 5) (fun vl _ => ?_); refine GE.V 12 (by as_aux_lemma => kernel_rfl) rfl rfl (cZ rfl rfl rfl (by exact Rd.ba 0 rfl) rfl rfl (by (simp; done)) (by (simp; done))) rfl (fun _ _ h => by exact h.drop 5) (fun tv1 _ => ?_)
           skip; refine GE.L (fun w hw => (Rd.ba 4 rfl (v := tv1) w hw).one_) (fun hotv => ?_)
           refine GE.t 13 (by as_aux_lemma => kernel_rfl) rfl rfl rfl (bd (be rfl)) rfl (fun _ _ => ?_); refine GE.U 14 (by as_aux_lemma => kernel_rfl) rfl rfl rfl (dO rfl rfl rfl (bK (by assumption)) rfl (by repeat (first | rfl | refine bB (by assumption) ?_)) (.succ (.succ (.succ (.succ (.succ (.succ (.succ (.zero (.cons .nil)))))))))) (fun _ _ => ?_); refine GE.E (by as_aux_lemma => kernel_rfl) ?_
          rotate_left
         rotate_left 2
         focus
          refine GE.I rfl rfl rfl (bq rfl (.cons rfl (.cons rfl .nil)) rfl rfl rfl rfl rfl rfl) rfl (fun _ _ h => by exact h.drop 3) (fun vl _ => ?_); refine GE.V 5 (by as_aux_lemma => kernel_rfl) rfl rfl (bq rfl (.cons rfl (.cons rfl (.cons rfl .nil))) rfl rfl rfl rfl rfl rfl) rfl (fun _ _ h => by exact h.drop 4) (fun vl _ => ?_); refine GE.V 6 (by as_aux_lemma => kernel_rfl) rfl rfl (dm rfl rfl rfl (bM (by exact Rd.ba 0 rfl) rfl rfl (by assumption) (by assumption))) rfl (fun _ _ h => by exact h.drop 4) ?_; rintro ⟨xr, xi, xh⟩ ⟨hxm, hxi⟩; try dsimp only
          refine GE.V 9 (by as_aux_lemma => kernel_rfl) rfl rfl (bG rfl rfl rfl (bM (by exact Rd.ba 1 rfl) rfl rfl (by assumption) (by assumption))) rfl (fun _ _ h => by exact h.drop 4) ?_; rintro ⟨xr, xi, xh⟩ ⟨hxm, hxi⟩; try dsimp only
          refine GE.V 10 (by as_aux_lemma => kernel_rfl) rfl rfl (bd (bJ rfl (.cons rfl (.cons rfl (.cons rfl (.cons rfl (.cons rfl (.cons rfl (.cons rfl .nil))))))) (.cons rfl rfl (.zero (.cons .nil)) (.cons rfl rfl (.succ (.zero (.cons .nil))) (.cons rfl rfl (.succ (.succ (.zero (.cons .nil)))) (.cons rfl rfl (.succ (.succ (.succ (.zero (.cons .nil))))) (.cons rfl rfl (.succ (.succ (.succ (.succ (.zero (.cons .nil)))))) (.cons rfl rfl (.succ (.succ (.succ (.succ (.succ (.zero (.cons .nil))))))) (.cons rfl rfl (.succ (.succ (.succ (.succ (.succ (.succ (.zero (.cons .nil)))))))) .nil))))))))) rfl (fun _ _ h => by exact h.drop 4) (fun _ _ => ?_); refine GE.V 11 (by as_aux_lemma => kernel_rfl) rfl rfl (bq rfl (.cons rfl .nil) rfl rfl rfl rfl rfl rfl) rfl (fun _ _ h => by exact h.drop 5) (fun vl _ => ?_); refine GE.V 12 (by as_aux_lemma => kernel_rfl) rfl rfl (cZ rfl rfl rfl (by exact Rd.ba 0 rfl) rfl rfl (by (simp; done)) (by (simp; done))) rfl (fun _ _ h => by exact h.drop 5) (fun tv1 _ => ?_)
          skip; refine GE.L (fun w hw => (Rd.ba 4 rfl (v := tv1) w hw).one_) (fun hotv => ?_)
          refine GE.t 13 (by as_aux_lemma => kernel_rfl) rfl rfl rfl (bd (be rfl)) rfl (fun _ _ => ?_); refine GE.U 14 (by as_aux_lemma => kernel_rfl) rfl rfl rfl (dO rfl rfl rfl (bK (by assumption)) rfl (by repeat (first | rfl | refine bB (by assumption) ?_)) (.succ (.succ (.succ (.succ (.succ (.succ (.succ (.zero (.cons .nil)))))))))) (fun _ _ => ?_); refine GE.E (by as_aux_lemma => kernel_rfl) ?_
         rotate_left
        rotate_left 3
        focus
         refine GE.I rfl rfl rfl (bq rfl (.cons rfl (.cons rfl (.cons rfl .nil))) rfl rfl rfl rfl rfl rfl) rfl (fun _ _ h => by exact h.drop 3) (fun vl _ => ?_); refine GE.any (rs := [3, 8]) (by as_aux_lemma => kernel_rfl) (by simp) ?_; refine List.forall_mem_cons.2 ⟨?_, List.forall_mem_cons.2 ⟨?_, fun _ h => absurd h List.not_mem_nil⟩⟩
         focus
          refine GE.I rfl rfl rfl (dm rfl rfl rfl (bA _ (by assumption) (by assumption)).toF) rfl (fun _ _ h => by exact h.drop 3) ?_; rintro ⟨xr, xi, xh⟩ ⟨⟨hx0, hx1⟩, hxi⟩; try dsimp only
          refine GE.any (rs := [6, 8]) (by as_aux_lemma => kernel_rfl) (by simp) ?_; refine List.forall_mem_cons.2 ⟨?_, List.forall_mem_cons.2 ⟨?_, fun _ h => absurd h List.not_mem_nil⟩⟩
          focus
           refine GE.I rfl rfl rfl (bG rfl rfl rfl (bM (by exact Rd.ba 0 rfl) rfl rfl (by assumption) (by assumption))) rfl (fun _ _ h => by exact h.drop 3) ?_; rintro ⟨xr, xi, xh⟩ ⟨hxm, hxi⟩; try dsimp only
           refine GE.V 8 (by as_aux_lemma => kernel_rfl) rfl rfl (bq rfl (.cons rfl (.cons rfl .nil)) rfl rfl rfl rfl rfl rfl) rfl (fun _ _ h => by exact h.drop 4) (fun vl _ => ?_); refine GE.V 9 (by as_aux_lemma => kernel_rfl) rfl rfl (bS rfl rfl rfl (bM (by exact Rd.ba 0 rfl) rfl rfl (by assumption) (by assumption))) rfl (fun _ _ h => by exact h.drop 4) ?_; rintro ⟨xr, xi, xh⟩ ⟨hxm, hxi⟩; try dsimp only
           refine GE.V 10 (by as_aux_lemma => kernel_rfl) rfl rfl (bd (bJ rfl (.cons rfl (.cons rfl (.cons rfl (.cons rfl (.cons rfl (.cons rfl (.cons rfl .nil))))))) (.cons rfl rfl (.zero (.cons .nil)) (.cons rfl rfl (.succ (.zero (.cons .nil))) (.cons rfl rfl (.succ (.succ (.zero (.cons .nil)))) (.cons rfl rfl (.succ (.succ (.succ (.zero (.cons .nil))))) (.cons rfl rfl (.succ (.succ (.succ (.succ (.zero (.cons .nil)))))) (.cons rfl rfl (.succ (.succ (.succ (.succ (.succ (.zero (.cons .nil))))))) (.cons rfl rfl (.succ (.succ (.succ (.succ (.succ (.succ (.zero (.cons .nil)))))))) .nil))))))))) rfl (fun _ _ h => by exact h.drop 4) (fun _ _ => ?_); refine GE.V 11 (by as_aux_lemma => kernel_rfl) rfl rfl (bq rfl (.cons rfl .nil) rfl rfl rfl rfl rfl rfl) rfl (fun _ _ h => by exact h.drop 5) (fun vl _ => ?_); refine GE.V 12 (by as_aux_lemma => kernel_rfl) rfl rfl (cZ rfl rfl rfl (by exact Rd.ba 0 rfl) rfl rfl (by (simp; done)) (by (simp; done))) rfl (fun _ _ h => by exact h.drop 5) (fun tv1 _ => ?_)
           skip; refine GE.L (fun w hw => (Rd.ba 4 rfl (v := tv1) w hw).one_) (fun hotv => ?_)
           refine GE.t 13 (by as_aux_lemma => kernel_rfl) rfl rfl rfl (bd (be rfl)) rfl (fun _ _ => ?_); refine GE.U 14 (by as_aux_lemma => kernel_rfl) rfl rfl rfl (dO rfl rfl rfl (bK (by assumption)) rfl (by repeat (first | rfl | refine bB (by assumption) ?_)) (.succ (.succ (.succ (.succ (.succ (.succ (.succ (.zero (.cons .nil)))))))))) (fun _ _ => ?_); refine GE.E (by as_aux_lemma => kernel_rfl) ?_
          rotate_left
          focus
           refine GE.I rfl rfl rfl (bq rfl (.cons rfl (.cons rfl .nil)) rfl rfl rfl rfl rfl rfl) rfl (fun _ _ h => by exact h.drop 4) (fun vl _ => ?_); refine GE.V 6 (by as_aux_lemma => kernel_rfl) rfl rfl (bS rfl rfl rfl (bM (by exact Rd.ba 1 rfl) rfl rfl (by assumption) (by assumption))) rfl (fun _ _ h => by exact h.drop 4) ?_; rintro ⟨xr, xi, xh⟩ ⟨hxm, hxi⟩; try dsimp only
           refine GE.V 9 (by as_aux_lemma => kernel_rfl) rfl rfl (bG rfl rfl rfl (bM (by exact Rd.ba 0 rfl) rfl rfl (by assumption) (by assumption))) rfl (fun _ _ h => by exact h.drop 4) ?_; rintro ⟨xr, xi, xh⟩ ⟨hxm, hxi⟩; try dsimp only
           refine GE.V 10 (by as_aux_lemma => kernel_rfl) rfl rfl (bd (bJ rfl (.cons rfl (.cons rfl (.cons rfl (.cons rfl (.cons rfl (.cons rfl (.cons rfl .nil))))))) (.cons rfl rfl (.zero (.cons .nil)) (.cons rfl rfl (.succ (.zero (.cons .nil))) (.cons rfl rfl (.succ (.succ (.zero (.cons .nil)))) (.cons rfl rfl (.succ (.succ (.succ (.zero (.cons .nil))))) (.cons rfl rfl (.succ (.succ (.succ (.succ (.zero (.cons .nil)))))) (.cons rfl rfl (.succ (.succ (.succ (.succ (.succ (.zero (.cons .nil))))))) (.cons rfl rfl (.succ (.succ (.succ (.succ (.succ (.succ (.zero (.cons .nil)))))))) .nil))))))))) rfl (fun _ _ h => by exact h.drop 4) (fun _ _ => ?_); refine GE.V 11 (by as_aux_lemma => kernel_rfl) rfl rfl (bq rfl (.cons rfl .nil) rfl rfl rfl rfl rfl rfl) rfl (fun _ _ h => by exact h.drop 5) (fun vl _ => ?_); refine GE.V 12 (by as_aux_lemma => kernel_rfl) rfl rfl (cZ rfl rfl rfl (by exact Rd.ba 0 rfl) rfl rfl (by (simp; done)) (by (simp; done))) rfl (fun _ _ h => by exact h.drop 5) (fun tv1 _ => ?_)
           skip; refine GE.L (fun w hw => (Rd.ba 4 rfl (v := tv1) w hw).one_) (fun hotv => ?_)
           refine GE.t 13 (by as_aux_lemma => kernel_rfl) rfl rfl rfl (bd (be rfl)) rfl (fun _ _ => ?_); refine GE.U 14 (by as_aux_lemma => kernel_rfl) rfl rfl rfl (dO rfl rfl rfl (bK (by assumption)) rfl (by repeat (first | rfl | refine bB (by assumption) ?_)) (.succ (.succ (.succ (.succ (.succ (.succ (.succ (.zero (.cons .nil)))))))))) (fun _ _ => ?_); refine GE.E (by as_aux_lemma => kernel_rfl) ?_
          rotate_left
         rotate_left 2
         focus
          refine GE.I rfl rfl rfl (bq rfl (.cons rfl (.cons rfl .nil)) rfl rfl rfl rfl rfl rfl) rfl (fun _ _ h => by exact h.drop 4) (fun vl _ => ?_); refine GE.V 3 (by as_aux_lemma => kernel_rfl) rfl rfl (og_callM3 rfl rfl rfl (bA _ (by assumption) (by assumption)).toF) rfl (fun _ _ h => by exact h.drop 4) ?_; rintro ⟨xr, xi, xh⟩ ⟨⟨hx0, hx1⟩, hxi⟩; try dsimp only
          refine GE.V 6 (by as_aux_lemma => kernel_rfl) rfl rfl (bG rfl rfl rfl (bM (by exact Rd.ba 1 rfl) rfl rfl (by assumption) (by assumption))) rfl (fun _ _ h => by exact h.drop 4) ?_; rintro ⟨xr, xi, xh⟩ ⟨hxm, hxi⟩; try dsimp only
          refine GE.V 9 (by as_aux_lemma => kernel_rfl) rfl rfl (bG rfl rfl rfl (bM (by exact Rd.ba 0 rfl) rfl rfl (by assumption) (by assumption))) rfl (fun _ _ h => by exact h.drop 4) ?_; rintro ⟨xr, xi, xh⟩ ⟨hxm, hxi⟩; try dsimp only
          refine GE.V 10 (by as_aux_lemma => kernel_rfl) rfl rfl (bd (bJ rfl (.cons rfl (.cons rfl (.cons rfl (.cons rfl (.cons rfl (.cons rfl (.cons rfl .nil))))))) (.cons rfl rfl (.zero (.cons .nil)) (.cons rfl rfl (.succ (.zero (.cons .nil))) (.cons rfl rfl (.succ (.succ (.zero (.cons .nil)))) (.cons rfl rfl (.succ (.succ (.succ (.zero (.cons .nil))))) (.cons rfl rfl (.succ (.succ (.succ (.succ (.zero (.cons .nil)))))) (.cons rfl rfl (.succ (.succ (.succ (.succ (.succ (.zero (.cons .nil))))))) (.cons rfl rfl (.succ (.succ (.succ (.succ (.succ (.succ (.zero (.cons .nil)))))))) .nil))))))))) rfl (fun _ _ h => by exact h.drop 4) (fun _ _ => ?_); refine GE.V 11 (by as_aux_lemma => kernel_rfl) rfl rfl (bq rfl (.cons rfl .nil) rfl rfl rfl rfl rfl rfl) rfl (fun _ _ h => by exact h.drop 5) (fun vl _ => ?_); refine GE.V 12 (by as_aux_lemma => kernel_rfl) rfl rfl (cZ rfl rfl rfl (by exact Rd.ba 0 rfl) rfl rfl (by (simp; done)) (by (simp; done))) rfl (fun _ _ h => by exact h.drop 5) (fun tv1 _ => ?_)
          skip; refine GE.L (fun w hw => (Rd.ba 4 rfl (v := tv1) w hw).one_) (fun hotv => ?_)
          refine GE.t 13 (by as_aux_lemma => kernel_rfl) rfl rfl rfl (bd (be rfl)) rfl (fun _ _ => ?_); refine GE.U 14 (by as_aux_lemma => kernel_rfl) rfl rfl rfl (dO rfl rfl rfl (bK (by assumption)) rfl (by repeat (first | rfl | refine bB (by assumption) ?_)) (.succ (.succ (.succ (.succ (.succ (.succ (.succ (.zero (.cons .nil)))))))))) (fun _ _ => ?_); refine GE.E (by as_aux_lemma => kernel_rfl) ?_
         rotate_left
        rotate_left 3
        focus
         refine GE.I rfl rfl rfl (bq rfl (.cons rfl (.cons rfl .nil)) rfl rfl rfl rfl rfl rfl) rfl (fun _ _ h => by exact h.drop 3) (fun vl _ => ?_); refine GE.any (rs := [3, 5]) (by as_aux_lemma => kernel_rfl) (by simp) ?_; refine List.forall_mem_cons.2 ⟨?_, List.forall_mem_cons.2 ⟨?_, fun _ h => absurd h List.not_mem_nil⟩⟩
         focus
          refine GE.I rfl rfl rfl (dm rfl rfl rfl (bA _ (by assumption) (by assumption)).toF) rfl (fun _ _ h => by exact h.drop 3) ?_; rintro ⟨xr, xi, xh⟩ ⟨⟨hx0, hx1⟩, hxi⟩; try dsimp only
          refine GE.V 5 (by as_aux_lemma => kernel_rfl) rfl rfl (bq rfl (.cons rfl (.cons rfl (.cons rfl .nil))) rfl rfl rfl rfl rfl rfl) rfl (fun _ _ h => by exact h.drop 4) (fun vl _ => ?_); refine GE.V 6 (by as_aux_lemma => kernel_rfl) rfl rfl (bS rfl rfl rfl (bM (by exact Rd.ba 0 rfl) rfl rfl (by assumption) (by assumption))) rfl (fun _ _ h => by exact h.drop 4) ?_; rintro ⟨xr, xi, xh⟩ ⟨hxm, hxi⟩; try dsimp only
          refine GE.V 9 (by as_aux_lemma => kernel_rfl) rfl rfl (bG rfl rfl rfl (bM (by exact Rd.ba 1 rfl) rfl rfl (by assumption) (by assumption))) rfl (fun _ _ h => by exact h.drop 4) ?_; rintro ⟨xr, xi, xh⟩ ⟨hxm, hxi⟩; try dsimp only
          refine GE.V 10 (by as_aux_lemma => kernel_rfl) rfl rfl (bd (bJ rfl (.cons rfl (.cons rfl (.cons rfl (.cons rfl (.cons rfl (.cons rfl (.cons rfl .nil))))))) (.cons rfl rfl (.zero (.cons .nil)) (.cons rfl rfl (.succ (.zero (.cons .nil))) (.cons rfl rfl (.succ (.succ (.zero (.cons .nil)))) (.cons rfl rfl (.succ (.succ (.succ (.zero (.cons .nil))))) (.cons rfl rfl (.succ (.succ (.succ (.succ (.zero (.cons .nil)))))) (.cons rfl rfl (.succ (.succ (.succ (.succ (.succ (.zero (.cons .nil))))))) (.cons rfl rfl (.succ (.succ (.succ (.succ (.succ (.succ (.zero (.cons .nil)))))))) .nil))))))))) rfl (fun _ _ h => by exact h.drop 4) (fun _ _ => ?_); refine GE.V 11 (by as_aux_lemma => kernel_rfl) rfl rfl (bq rfl (.cons rfl .nil) rfl rfl rfl rfl rfl rfl) rfl (fun _ _ h => by exact h.drop 5) (fun vl _ => ?_); refine GE.V 12 (by as_aux_lemma => kernel_rfl) rfl rfl (cZ rfl rfl rfl (by exact Rd.ba 0 rfl) rfl rfl (by (simp; done)) (by (simp; done))) rfl (fun _ _ h => by exact h.drop 5) (fun tv1 _ => ?_)
          skip; refine GE.L (fun w hw => (Rd.ba 4 rfl (v := tv1) w hw).one_) (fun hotv => ?_)
          refine GE.t 13 (by as_aux_lemma => kernel_rfl) rfl rfl rfl (bd (be rfl)) rfl (fun _ _ => ?_); refine GE.U 14 (by as_aux_lemma => kernel_rfl) rfl rfl rfl (dO rfl rfl rfl (bK (by assumption)) rfl (by repeat (first | rfl | refine bB (by assumption) ?_)) (.succ (.succ (.succ (.succ (.succ (.succ (.succ (.zero (.cons .nil)))))))))) (fun _ _ => ?_); refine GE.E (by as_aux_lemma => kernel_rfl) ?_
         rotate_left
         focus
          refine GE.I rfl rfl rfl (bq rfl (.cons rfl (.cons rfl (.cons rfl .nil))) rfl rfl rfl rfl rfl rfl) rfl (fun _ _ h => by exact h.drop 4) (fun vl _ => ?_); refine GE.V 3 (by as_aux_lemma => kernel_rfl) rfl rfl (og_callM3 rfl rfl rfl (bA _ (by assumption) (by assumption)).toF) rfl (fun _ _ h => by exact h.drop 4) ?_; rintro ⟨xr, xi, xh⟩ ⟨⟨hx0, hx1⟩, hxi⟩; try dsimp only
          refine GE.V 6 (by as_aux_lemma => kernel_rfl) rfl rfl (bG rfl rfl rfl (bM (by exact Rd.ba 0 rfl) rfl rfl (by assumption) (by assumption))) rfl (fun _ _ h => by exact h.drop 4) ?_; rintro ⟨xr, xi, xh⟩ ⟨hxm, hxi⟩; try dsimp only
          refine GE.V 9 (by as_aux_lemma => kernel_rfl) rfl rfl (bG rfl rfl rfl (bM (by exact Rd.ba 1 rfl) rfl rfl (by assumption) (by assumption))) rfl (fun _ _ h => by exact h.drop 4) ?_; rintro ⟨xr, xi, xh⟩ ⟨hxm, hxi⟩; try dsimp only
          refine GE.V 10 (by as_aux_lemma => kernel_rfl) rfl rfl (bd (bJ rfl (.cons rfl (.cons rfl (.cons rfl (.cons rfl (.cons rfl (.cons rfl (.cons rfl .nil))))))) (.cons rfl rfl (.zero (.cons .nil)) (.cons rfl rfl (.succ (.zero (.cons .nil))) (.cons rfl rfl (.succ (.succ (.zero (.cons .nil)))) (.cons rfl rfl (.succ (.succ (.succ (.zero (.cons .nil))))) (.cons rfl rfl (.succ (.succ (.succ (.succ (.zero (.cons .nil)))))) (.cons rfl rfl (.succ (.succ (.succ (.succ (.succ (.zero (.cons .nil))))))) (.cons rfl rfl (.succ (.succ (.succ (.succ (.succ (.succ (.zero (.cons .nil)))))))) .nil))))))))) rfl (fun _ _ h => by exact h.drop 4) (fun _ _ => ?_); refine GE.V 11 (by as_aux_lemma => kernel_rfl) rfl rfl (bq rfl (.cons rfl .nil) rfl rfl rfl rfl rfl rfl) rfl (fun _ _ h => by exact h.drop 5) (fun vl _ => ?_); refine GE.V 12 (by as_aux_lemma => kernel_rfl) rfl rfl (cZ rfl rfl rfl (by exact Rd.ba 0 rfl) rfl rfl (by (simp; done)) (by (simp; done))) rfl (fun _ _ h => by exact h.drop 5) (fun tv1 _ => ?_)
          skip; refine GE.L (fun w hw => (Rd.ba 4 rfl (v := tv1) w hw).one_) (fun hotv => ?_)
          refine GE.t 13 (by as_aux_lemma => kernel_rfl) rfl rfl rfl (bd (be rfl)) rfl (fun _ _ => ?_); refine GE.U 14 (by as_aux_lemma => kernel_rfl) rfl rfl rfl (dO rfl rfl rfl (bK (by assumption)) rfl (by repeat (first | rfl | refine bB (by assumption) ?_)) (.succ (.succ (.succ (.succ (.succ (.succ (.succ (.zero (.cons .nil)))))))))) (fun _ _ => ?_); refine GE.E (by as_aux_lemma => kernel_rfl) ?_
         rotate_left
        rotate_left 2
        all_goals
         refine G.bh cb rfl ?_; refine G.bp tv1 rfl ?_; refine G.frontB5 bk3 rfl ?_; refine G.bJ 3 rfl ?_; refine G.cutEnd (tv1, ⟨_, _, _, _, _, _, _⟩, _, _) 0 rfl (.cons rfl (.cons rfl (.cons rfl (.nil)))) ?_ ?_
         exact trivial
         exact ⟨⟨hotv, TyFar.one (Int.le_of_lt (by decide : (7 : Int) < 20)) (pick_cost (by assumption))⟩, by assumption⟩
       rintro ⟨tv1, ty1, xi, xh⟩ ⟨⟨hotv, hty1⟩, hxi⟩
       dsimp only at hotv hty1 hxi ⊢
       refine G.E (G.seq (G.region (G.v (ba rfl) rfl ?_))); refine G.op (dm rfl rfl rfl (bA _ (by assumption) (by assumption)).toF) rfl ?_; rintro ⟨xr, xi, xh⟩ ⟨⟨hx0, hx1⟩, hxi⟩; try dsimp only
       obtain ⟨n, rfl⟩ := Int.eq_ofNat_of_zero_le hx0; have hn4 : n ≤ 4 := (by omega)
       refine G.v (bb rfl) rfl (G.I (G.E (G.seq (G.seq (G.region (G.v (bb rfl) rfl (G.I (G.E (G.block ?_))))))))); refine G.bw cb rfl ?_; refine G.be tv1 rfl ?_; refine G.bx bk3 rfl ?_; refine G.Y (ι := Nat × Value × List TypeM × Nat × Int) (ks := [0, 2, 3, 6]) (fun x => [(7, .int .i64 (x.1 : Int))]) (fun x => [.blk bk3 41 [.int .i64 wy, .int .i64 pw, .int .i64 pd, .int .i64 ph, .int .i64 pg, .int .i64 (1 + (cl : Int)), pv, x.2.1, .int .i64 7, .slice none 0 0], .row x.2.1 56 7 (x.2.2.1.map TypeM.cells), .blk cb 182 [v, .int .i64 x.2.2.2.1, .int .i64 x.2.2.2.2]]) (fun x => (x.1 ≤ n ∧ x.2.2.1.length = x.1 + 1 ∧ TyFar x.2.2.1) ∧ x.2.2.2.1 ≤ l.length) (fun x => n - x.1) (0, tv1, [ty1], _, _) (.cons rfl (.cons rfl (.cons rfl (.cons rfl (.nil))))) rfl ?_ ?_ ?_
       exact ⟨⟨Nat.zero_le _, rfl, hty1⟩, by assumption⟩
       exact ⟨rfl, trivial⟩
       rintro ⟨k, tv, ty, xi, xh⟩ ⟨⟨hk, htl, htf⟩, hxi⟩
       dsimp only at hk htl htf hxi ⊢
       have htl3 : (ty.map TypeM.cells).length = ty.length := by simp
       by_cases hlt2 : k < n
       case' neg => (refine G.heap (fun w hh => hh.nilRow 111 7) ?_)
       all_goals
        refine G.seq (G.seq (G.region (G.v (ba rfl) rfl (G.v (ba rfl) rfl (G.v (br rfl rfl) rfl (G.I (G.E ?_))))))); refine G.cond rfl (fun hc => ?_) (fun hc => ?_)
        · all_goals
           replace hc := of_decide_eq_true hc
           try (exfalso; omega)
           all_goals
            refine G.skip (G.E (G.seq (G.block ?_))); refine G.bx cb rfl ?_; refine G.be tv rfl ?_; refine G.drawD2 [24, 25] rfl ?_; refine GE.Y 0 rfl (by as_aux_lemma => kernel_rfl) rfl (bc (be rfl)) (fun _ h => by exact h.drop 2) rfl ?_; refine GE.Y 1 rfl (by as_aux_lemma => kernel_rfl) rfl (bc (bf 0 rfl rfl rfl)) (fun _ h => by exact h.drop 2) rfl ?_; refine GE.Y 2 rfl (by as_aux_lemma => kernel_rfl) rfl (bc (ba rfl)) (fun _ h => by exact h.drop 2) rfl ?_; refine GE.Y 3 rfl (by as_aux_lemma => kernel_rfl) rfl (bc (bD rfl rfl (by omega) (by omega))) (fun _ h => by exact h.drop 2) rfl ?_; refine GE.Y 4 rfl (by as_aux_lemma => kernel_rfl) rfl (bc (ba rfl)) (fun _ h => by exact h.drop 2) rfl ?_; refine GE.Y 7 rfl (by as_aux_lemma => kernel_rfl) rfl (bc (ba rfl)) (fun _ h => by exact h.drop 2) rfl ?_; refine GE.Y 10 rfl (by as_aux_lemma => kernel_rfl) rfl (bc (ba rfl)) (fun _ h => by exact h.drop 2) rfl ?_; refine GE.Y 13 rfl (by as_aux_lemma => kernel_rfl) rfl (bc (ba rfl)) (fun _ h => by exact h.drop 2) rfl ?_; refine GE.Y 15 rfl (by as_aux_lemma => kernel_rfl) rfl (bc (ba rfl)) (fun _ h => by exact h.drop 2) rfl ?_; refine GE.Y 18 rfl (by as_aux_lemma => kernel_rfl) rfl (bc (ba rfl)) (fun _ h => by exact h.drop 2) rfl ?_
            refine GE.V 5 (by as_aux_lemma => kernel_rfl) rfl rfl (bS rfl rfl rfl (bA _ (by assumption) (by assumption)).toF) rfl (fun _ _ h => by exact h.drop 2) ?_; rintro ⟨xr, xi, xh⟩ ⟨⟨hx0, hx1⟩, hxi⟩; try dsimp only
            refine GE.Y 6 rfl (by as_aux_lemma => kernel_rfl) rfl (bc (bD rfl rfl (by omega) (by omega))) (fun _ h => by exact h.drop 2) rfl ?_; refine GE.V 8 (by as_aux_lemma => kernel_rfl) rfl rfl (bG rfl rfl rfl (bA _ (by assumption) (by assumption)).toF) rfl (fun _ _ h => by exact h.drop 2) ?_; rintro ⟨xr, xi, xh⟩ ⟨⟨hx0, hx1⟩, hxi⟩; try dsimp only
            refine GE.Y 9 rfl (by as_aux_lemma => kernel_rfl) rfl (bc (bD rfl rfl (by omega) (by omega))) (fun _ h => by exact h.drop 2) rfl ?_; refine GE.V 11 (by as_aux_lemma => kernel_rfl) rfl rfl (bG rfl rfl rfl (bA _ (by assumption) (by assumption)).toF) rfl (fun _ _ h => by exact h.drop 2) ?_; rintro ⟨xr, xi, xh⟩ ⟨⟨hx0, hx1⟩, hxi⟩; try dsimp only
            refine GE.Y 12 rfl (by as_aux_lemma => kernel_rfl) rfl (bc (bD rfl rfl (by omega) (by omega))) (fun _ h => by exact h.drop 2) rfl ?_; refine GE.V 14 (by as_aux_lemma => kernel_rfl) rfl rfl (bG rfl rfl rfl (bA _ (by assumption) (by assumption)).toF) rfl (fun _ _ h => by exact h.drop 2) ?_; rintro ⟨xr, xi, xh⟩ ⟨⟨hx0, hx1⟩, hxi⟩; try dsimp only
            refine GE.V 16 (by as_aux_lemma => kernel_rfl) rfl rfl (bG rfl rfl rfl (bA _ (by assumption) (by assumption)).toF) rfl (fun _ _ h => by exact h.drop 2) ?_; rintro ⟨xr, xi, xh⟩ ⟨⟨hx0, hx1⟩, hxi⟩; try dsimp only
            refine GE.Y 17 rfl (by as_aux_lemma => kernel_rfl) rfl (bc (bD rfl rfl (by omega) (by omega))) (fun _ h => by exact h.drop 2) rfl ?_; refine GE.V 19 (by as_aux_lemma => kernel_rfl) rfl rfl (bG rfl rfl rfl (bA _ (by assumption) (by assumption)).toF) rfl (fun _ _ h => by exact h.drop 2) ?_; rintro ⟨xr, xi, xh⟩ ⟨⟨hx0, hx1⟩, hxi⟩; try dsimp only
            refine GE.V 20 (by as_aux_lemma => kernel_rfl) rfl rfl (bd (bD rfl rfl (by omega) (by omega))) rfl (fun _ _ h => by exact h.drop 2) (fun _ _ => ?_); refine GE.V 21 (by as_aux_lemma => kernel_rfl) rfl rfl (bd (bJ rfl (.cons rfl (.cons rfl (.cons rfl (.cons rfl (.cons rfl (.cons rfl (.cons rfl .nil))))))) (.cons rfl rfl (.zero (.cons .nil)) (.cons rfl rfl (.succ (.zero (.cons .nil))) (.cons rfl rfl (.succ (.succ (.zero (.cons .nil)))) (.cons rfl rfl (.succ (.succ (.succ (.zero (.cons .nil))))) (.cons rfl rfl (.succ (.succ (.succ (.succ (.zero (.cons .nil)))))) (.cons rfl rfl (.succ (.succ (.succ (.succ (.succ (.zero (.cons .nil))))))) (.cons rfl rfl (.succ (.succ (.succ (.succ (.succ (.succ (.zero (.cons .nil)))))))) .nil))))))))) rfl (fun _ _ h => by exact h.drop 2) (fun _ _ => ?_); refine GE.V 22 (by as_aux_lemma => kernel_rfl) rfl rfl (bq rfl (.cons rfl .nil) rfl rfl rfl rfl rfl rfl) rfl (fun _ _ h => by exact h.drop 3) (fun vl _ => ?_); refine GE.V 23 (by as_aux_lemma => kernel_rfl) rfl rfl (cC rfl rfl rfl (by exact Rd.ba 0 rfl) rfl rfl (by (simp; omega)) (by (simp; omega))) rfl (fun _ _ h => by exact h.drop 3) (fun tv2 _ => ?_)
            skip; refine GE.L (fun w hw => (Rd.ba 2 rfl (v := tv2) w hw).one_) (fun hotv2 => ?_)
            refine GE.t 24 (by as_aux_lemma => kernel_rfl) rfl rfl rfl (bd (be rfl)) rfl (fun _ _ => ?_); refine GE.U 25 (by as_aux_lemma => kernel_rfl) rfl rfl rfl (og_st3 rfl rfl rfl (bK (by assumption)) rfl (by repeat (first | rfl | refine bB (by assumption) ?_)) (.succ (.succ (.succ (.succ (.succ (.succ (.succ (.zero (.cons .nil)))))))))) (fun _ _ => ?_); refine GE.E (by as_aux_lemma => kernel_rfl) ?_; refine G.bc (G.E (G.region (G.v (ba rfl) rfl ?_))); refine G.v (bp rfl rfl (by omega)) rfl ?_; refine G.v (bb rfl) rfl (G.I ?_); refine G.bh cb rfl ?_; refine G.be tv2 rfl ?_; refine G.bH bk3 rfl ?_; refine G.bJ 1 rfl ?_; refine G.V (k + 1, tv2, ty ++ [⟨_, _, _, _, _, _, _⟩], _, _) 0 (de rfl (congrArg (fun z => Ch.row tv2 56 7 z) (by rw [List.map_append]; rfl)) rfl) (.cons rfl (.cons rfl (.cons rfl (.cons rfl (.nil))))) ?_ ?_ ?_
            exact ⟨rfl, trivial⟩
            exact ⟨⟨by dsimp only; omega, by simp; omega, htf.snoc (by dsimp only; omega) (by dsimp only; omega)⟩, by assumption⟩
            dsimp only; omega
        · all_goals
           replace hc := of_decide_eq_false hc
           try (exfalso; omega)
           all_goals
            refine G.exit (G.L (G.L (G.bn (G.E (G.seq (G.region (G.v (ba rfl) rfl ?_))))))); refine G.op (og_callM3 rfl rfl rfl (bA _ (by assumption) (by assumption)).toF) rfl ?_; rintro ⟨xr, xi, xh⟩ ⟨⟨hx0, hx1⟩, hxi⟩; try dsimp only
            obtain ⟨mn, rfl⟩ := Int.eq_ofNat_of_zero_le hx0; have hmn5 : mn ≤ 5 := (by omega)
            refine G.v (bb rfl) rfl (G.I (G.E (G.seq (G.region (G.v (bb rfl) rfl (G.I (G.E (G.seq (G.seq (G.region (G.v (bb rfl) rfl ?_))))))))))); refine G.I (G.E (G.block ?_)); refine G.bw cb rfl ?_; refine G.bm (Value.slice none 0 0) rfl ?_; refine G.bx bk3 rfl ?_; refine G.Y (ι := Nat × Int × Value × List ItemM × Nat × Int) (ks := [0, 2, 3, 8]) (fun x => [(9, .int .i64 x.2.1), (10, .int .i64 (x.1 : Int))]) (fun x => [.blk bk3 41 [.int .i64 wy, .int .i64 pw, .int .i64 pd, .int .i64 ph, .int .i64 pg, .int .i64 (1 + (cl : Int)), pv, tv, .int .i64 7, x.2.2.1], .row x.2.2.1 111 7 (x.2.2.2.1.map ItemM.cells), .blk cb 182 [v, .int .i64 x.2.2.2.2.1, .int .i64 x.2.2.2.2.2]]) (fun x => (x.1 ≤ mn ∧ x.2.2.2.1.length ≤ x.1 ∧ 0 ≤ x.2.1 ∧ x.2.1 ≤ 12) ∧ x.2.2.2.2.1 ≤ l.length) (fun x => mn - x.1) (0, 0, .slice none 0 0, [], _, _) (.cons rfl (.cons rfl (.cons rfl (.cons rfl (.nil))))) rfl ?_ ?_ ?_
            exact ⟨⟨Nat.zero_le _, Nat.le_refl _, Int.le_refl _, by dsimp only; omega⟩, by assumption⟩
            exact ⟨rfl, rfl, trivial⟩
            rintro ⟨j, un, iv, its, xi, xh⟩ ⟨⟨hj, hil, hun0, hun⟩, hxi⟩
            dsimp only at hj hil hun0 hun hxi ⊢
            have hil3 : (its.map ItemM.cells).length = its.length := by simp
            all_goals
             refine G.seq (G.seq (G.region (G.v (ba rfl) rfl (G.v (ba rfl) rfl (G.v (br rfl rfl) rfl (G.I (G.E ?_))))))); refine G.cond rfl (fun hc => ?_) (fun hc => ?_)
             · all_goals
                replace hc := of_decide_eq_true hc
                all_goals
                 refine G.skip (G.E (G.seq (G.block (G.seq ?_)))); refine G.bx cb rfl ?_; refine G.cut (ι := Nat × (Int × Int × Int × Int × Int × Int × Int) × Nat × Int) (ks := [0, 2, 3, 8, 9, 10]) (fun x => [(11, pB x.1 0)]) (fun x => [.blk x.1 111 [.int .i64 x.2.1.1, .int .i64 x.2.1.2.1, .int .i64 x.2.1.2.2.1, .int .i64 x.2.1.2.2.2.1, .int .i64 x.2.1.2.2.2.2.1, .int .i64 x.2.1.2.2.2.2.2.1, .int .i64 x.2.1.2.2.2.2.2.2], .blk cb 182 [v, .int .i64 x.2.2.1, .int .i64 x.2.2.2]]) (fun x => (1 ≤ x.2.1.2.2.2.2.2.2 ∧ x.2.1.2.2.2.2.2.2 ≤ 4) ∧ x.2.2.1 ≤ l.length) 1 (.cons rfl (.cons rfl (.cons rfl (.cons rfl (.cons rfl (.cons rfl (.nil))))))) rfl ?_ ?_
                 focus
                  refine G.bw cb rfl ?_; refine G.bG [23] rfl ?_; refine GE.Y 0 rfl (by as_aux_lemma => kernel_rfl) rfl (bc (ba rfl)) (fun _ h => by exact h.drop 1) rfl ?_; refine GE.Y 1 rfl (by as_aux_lemma => kernel_rfl) rfl (bc (rv_mulB rfl rfl (by omega) (by omega))) (fun _ h => by exact h.drop 1) rfl ?_; refine GE.Y 2 rfl (by as_aux_lemma => kernel_rfl) rfl (bc (ba rfl)) (fun _ h => by exact h.drop 1) rfl ?_; refine GE.Y 5 rfl (by as_aux_lemma => kernel_rfl) rfl (bc (ba rfl)) (fun _ h => by exact h.drop 1) rfl ?_; refine GE.Y 8 rfl (by as_aux_lemma => kernel_rfl) rfl (bc (ba rfl)) (fun _ h => by exact h.drop 1) rfl ?_; refine GE.Y 11 rfl (by as_aux_lemma => kernel_rfl) rfl (bc (ba rfl)) (fun _ h => by exact h.drop 1) rfl ?_; refine GE.Y 14 rfl (by as_aux_lemma => kernel_rfl) rfl (bc (ba rfl)) (fun _ h => by exact h.drop 1) rfl ?_; refine GE.Y 15 rfl (by as_aux_lemma => kernel_rfl) rfl (bc (be rfl)) (fun _ h => by exact h.drop 1) rfl ?_; refine GE.Y 16 rfl (by as_aux_lemma => kernel_rfl) rfl (bc (bf 0 rfl rfl rfl)) (fun _ h => by exact h.drop 1) rfl ?_; refine GE.Y 18 rfl (by as_aux_lemma => kernel_rfl) rfl (bc (ba rfl)) (fun _ h => by exact h.drop 1) rfl ?_; refine GE.any (rs := [3, 22]) (by as_aux_lemma => kernel_rfl) (by simp) ?_; refine List.forall_mem_cons.2 ⟨?_, List.forall_mem_cons.2 ⟨?_, fun _ h => absurd h List.not_mem_nil⟩⟩
                  focus
                   refine GE.I rfl rfl rfl (bG rfl rfl rfl (bA _ (by assumption) (by assumption)).toF) rfl (fun _ _ h => by exact h.drop 1) ?_; rintro ⟨xr, xi, xh⟩ ⟨⟨hx0, hx1⟩, hxi⟩; try dsimp only
                   refine GE.Y 4 rfl (by as_aux_lemma => kernel_rfl) rfl (bc (bD rfl rfl (by omega) (by omega))) (fun _ h => by exact h.drop 1) rfl ?_; refine GE.any (rs := [6, 22]) (by as_aux_lemma => kernel_rfl) (by simp) ?_; refine List.forall_mem_cons.2 ⟨?_, List.forall_mem_cons.2 ⟨?_, fun _ h => absurd h List.not_mem_nil⟩⟩
                   focus
                    refine GE.I rfl rfl rfl (bG rfl rfl rfl (bA _ (by assumption) (by assumption)).toF) rfl (fun _ _ h => by exact h.drop 1) ?_; rintro ⟨xr, xi, xh⟩ ⟨⟨hx0, hx1⟩, hxi⟩; try dsimp only
                    refine GE.Y 7 rfl (by as_aux_lemma => kernel_rfl) rfl (bc (bD rfl rfl (by omega) (by omega))) (fun _ h => by exact h.drop 1) rfl ?_; refine GE.any (rs := [9, 22]) (by as_aux_lemma => kernel_rfl) (by simp) ?_; refine List.forall_mem_cons.2 ⟨?_, List.forall_mem_cons.2 ⟨?_, fun _ h => absurd h List.not_mem_nil⟩⟩
                    focus
                     refine GE.I rfl rfl rfl (bG rfl rfl rfl (bA _ (by assumption) (by assumption)).toF) rfl (fun _ _ h => by exact h.drop 1) ?_; rintro ⟨xr, xi, xh⟩ ⟨⟨hx0, hx1⟩, hxi⟩; try dsimp only
                     refine GE.Y 10 rfl (by as_aux_lemma => kernel_rfl) rfl (bc (bD rfl rfl (by omega) (by omega))) (fun _ h => by exact h.drop 1) rfl ?_; refine GE.any (rs := [12, 22]) (by as_aux_lemma => kernel_rfl) (by simp) ?_; refine List.forall_mem_cons.2 ⟨?_, List.forall_mem_cons.2 ⟨?_, fun _ h => absurd h List.not_mem_nil⟩⟩
                     focus
                      refine GE.I rfl rfl rfl (bG rfl rfl rfl (bA _ (by assumption) (by assumption)).toF) rfl (fun _ _ h => by exact h.drop 1) ?_; rintro ⟨xr, xi, xh⟩ ⟨⟨hx0, hx1⟩, hxi⟩; try dsimp only
                      refine GE.Y 13 rfl (by as_aux_lemma => kernel_rfl) rfl (bc (bD rfl rfl (by omega) (by omega))) (fun _ h => by exact h.drop 1) rfl ?_; refine GE.any (rs := [17, 22]) (by as_aux_lemma => kernel_rfl) (by simp) ?_; refine List.forall_mem_cons.2 ⟨?_, List.forall_mem_cons.2 ⟨?_, fun _ h => absurd h List.not_mem_nil⟩⟩
                      focus
                       refine GE.I rfl rfl rfl (bG rfl rfl rfl (bA _ (by assumption) (by assumption)).toF) rfl (fun _ _ h => by exact h.drop 1) ?_; rintro ⟨xr, xi, xh⟩ ⟨⟨hx0, hx1⟩, hxi⟩; try dsimp only
                       refine GE.any (rs := [19, 22]) (by as_aux_lemma => kernel_rfl) (by simp) ?_; refine List.forall_mem_cons.2 ⟨?_, List.forall_mem_cons.2 ⟨?_, fun _ h => absurd h List.not_mem_nil⟩⟩
                       focus
                        refine GE.I rfl rfl rfl (bG rfl rfl rfl (bA _ (by assumption) (by assumption)).toF) rfl (fun _ _ h => by exact h.drop 1) ?_; rintro ⟨ct, xi, xh⟩ ⟨⟨hct0, hct1⟩, hxi⟩; try dsimp only
                        refine GE.Y 20 rfl (by as_aux_lemma => kernel_rfl) rfl (bc (bD rfl rfl (by omega) (by omega))) (fun _ h => by exact h.drop 1) rfl ?_; refine GE.Y 21 rfl (by as_aux_lemma => kernel_rfl) rfl (bc (bJ rfl (.cons rfl (.cons rfl (.cons rfl (.cons rfl (.cons rfl (.cons rfl (.cons rfl .nil))))))) (.cons rfl rfl (.zero (.cons .nil)) (.cons rfl rfl (.succ (.zero (.cons .nil))) (.cons rfl rfl (.succ (.succ (.zero (.cons .nil)))) (.cons rfl rfl (.succ (.succ (.succ (.zero (.cons .nil))))) (.cons rfl rfl (.succ (.succ (.succ (.succ (.zero (.cons .nil)))))) (.cons rfl rfl (.succ (.succ (.succ (.succ (.succ (.zero (.cons .nil))))))) (.cons rfl rfl (.succ (.succ (.succ (.succ (.succ (.succ (.zero (.cons .nil)))))))) .nil))))))))) (fun _ h => by exact h.drop 1) rfl ?_; refine GE.V 22 (by as_aux_lemma => kernel_rfl) rfl rfl (bu) rfl (fun _ _ h => by exact h.drop 2) (fun bk11 _ => ?_); refine GE.U 23 (by as_aux_lemma => kernel_rfl) rfl rfl rfl (bL rfl rfl rfl rfl rfl rfl (.zero (.cons (.cons (.cons (.cons (.cons (.cons (.cons .nil))))))))) (fun _ _ => ?_); refine GE.E (by as_aux_lemma => kernel_rfl) ?_
                       rotate_left
                       focus
                        refine GE.I rfl rfl rfl (bu) rfl (fun _ _ h => by exact h.drop 2) (fun bk11 _ => ?_); refine GE.V 19 (by as_aux_lemma => kernel_rfl) rfl rfl (bS rfl rfl rfl (bA _ (by assumption) (by assumption)).toF) rfl (fun _ _ h => by exact h.drop 2) ?_; rintro ⟨ct, xi, xh⟩ ⟨⟨hct0, hct1⟩, hxi⟩; try dsimp only
                        refine GE.V 20 (by as_aux_lemma => kernel_rfl) rfl rfl (bd (bD rfl rfl (by omega) (by omega))) rfl (fun _ _ h => by exact h.drop 2) (fun _ _ => ?_); refine GE.V 21 (by as_aux_lemma => kernel_rfl) rfl rfl (bd (bJ rfl (.cons rfl (.cons rfl (.cons rfl (.cons rfl (.cons rfl (.cons rfl (.cons rfl .nil))))))) (.cons rfl rfl (.zero (.cons .nil)) (.cons rfl rfl (.succ (.zero (.cons .nil))) (.cons rfl rfl (.succ (.succ (.zero (.cons .nil)))) (.cons rfl rfl (.succ (.succ (.succ (.zero (.cons .nil))))) (.cons rfl rfl (.succ (.succ (.succ (.succ (.zero (.cons .nil)))))) (.cons rfl rfl (.succ (.succ (.succ (.succ (.succ (.zero (.cons .nil))))))) (.cons rfl rfl (.succ (.succ (.succ (.succ (.succ (.succ (.zero (.cons .nil)))))))) .nil))))))))) rfl (fun _ _ h => by exact h.drop 2) (fun _ _ => ?_); refine GE.U 23 (by as_aux_lemma => kernel_rfl) rfl rfl rfl (cf rfl rfl rfl rfl rfl rfl (.zero (.cons (.cons (.cons (.cons (.cons (.cons (.cons .nil))))))))) (fun _ _ => ?_); refine GE.E (by as_aux_lemma => kernel_rfl) ?_
                       rotate_left
                      rotate_left 2
                      focus
                       refine GE.I rfl rfl rfl (bu) rfl (fun _ _ h => by exact h.drop 2) (fun bk11 _ => ?_); refine GE.V 17 (by as_aux_lemma => kernel_rfl) rfl rfl (bS rfl rfl rfl (bA _ (by assumption) (by assumption)).toF) rfl (fun _ _ h => by exact h.drop 2) ?_; rintro ⟨xr, xi, xh⟩ ⟨⟨hx0, hx1⟩, hxi⟩; try dsimp only
                       refine GE.V 19 (by as_aux_lemma => kernel_rfl) rfl rfl (bG rfl rfl rfl (bA _ (by assumption) (by assumption)).toF) rfl (fun _ _ h => by exact h.drop 2) ?_; rintro ⟨ct, xi, xh⟩ ⟨⟨hct0, hct1⟩, hxi⟩; try dsimp only
                       refine GE.V 20 (by as_aux_lemma => kernel_rfl) rfl rfl (bd (bD rfl rfl (by omega) (by omega))) rfl (fun _ _ h => by exact h.drop 2) (fun _ _ => ?_); refine GE.V 21 (by as_aux_lemma => kernel_rfl) rfl rfl (bd (bJ rfl (.cons rfl (.cons rfl (.cons rfl (.cons rfl (.cons rfl (.cons rfl (.cons rfl .nil))))))) (.cons rfl rfl (.zero (.cons .nil)) (.cons rfl rfl (.succ (.zero (.cons .nil))) (.cons rfl rfl (.succ (.succ (.zero (.cons .nil)))) (.cons rfl rfl (.succ (.succ (.succ (.zero (.cons .nil))))) (.cons rfl rfl (.succ (.succ (.succ (.succ (.zero (.cons .nil)))))) (.cons rfl rfl (.succ (.succ (.succ (.succ (.succ (.zero (.cons .nil))))))) (.cons rfl rfl (.succ (.succ (.succ (.succ (.succ (.succ (.zero (.cons .nil)))))))) .nil))))))))) rfl (fun _ _ h => by exact h.drop 2) (fun _ _ => ?_); refine GE.U 23 (by as_aux_lemma => kernel_rfl) rfl rfl rfl (cf rfl rfl rfl rfl rfl rfl (.zero (.cons (.cons (.cons (.cons (.cons (.cons (.cons .nil))))))))) (fun _ _ => ?_); refine GE.E (by as_aux_lemma => kernel_rfl) ?_
                      rotate_left
                     rotate_left 3
                     focus
                      refine GE.I rfl rfl rfl (bu) rfl (fun _ _ h => by exact h.drop 2) (fun bk11 _ => ?_); refine GE.V 12 (by as_aux_lemma => kernel_rfl) rfl rfl (bS rfl rfl rfl (bA _ (by assumption) (by assumption)).toF) rfl (fun _ _ h => by exact h.drop 2) ?_; rintro ⟨xr, xi, xh⟩ ⟨⟨hx0, hx1⟩, hxi⟩; try dsimp only
                      refine GE.Y 13 rfl (by as_aux_lemma => kernel_rfl) rfl (bc (bD rfl rfl (by omega) (by omega))) (fun _ h => by exact h.drop 2) rfl ?_; refine GE.V 17 (by as_aux_lemma => kernel_rfl) rfl rfl (bG rfl rfl rfl (bA _ (by assumption) (by assumption)).toF) rfl (fun _ _ h => by exact h.drop 2) ?_; rintro ⟨xr, xi, xh⟩ ⟨⟨hx0, hx1⟩, hxi⟩; try dsimp only
                      refine GE.V 19 (by as_aux_lemma => kernel_rfl) rfl rfl (bG rfl rfl rfl (bA _ (by assumption) (by assumption)).toF) rfl (fun _ _ h => by exact h.drop 2) ?_; rintro ⟨ct, xi, xh⟩ ⟨⟨hct0, hct1⟩, hxi⟩; try dsimp only
                      refine GE.V 20 (by as_aux_lemma => kernel_rfl) rfl rfl (bd (bD rfl rfl (by omega) (by omega))) rfl (fun _ _ h => by exact h.drop 2) (fun _ _ => ?_); refine GE.V 21 (by as_aux_lemma => kernel_rfl) rfl rfl (bd (bJ rfl (.cons rfl (.cons rfl (.cons rfl (.cons rfl (.cons rfl (.cons rfl (.cons rfl .nil))))))) (.cons rfl rfl (.zero (.cons .nil)) (.cons rfl rfl (.succ (.zero (.cons .nil))) (.cons rfl rfl (.succ (.succ (.zero (.cons .nil)))) (.cons rfl rfl (.succ (.succ (.succ (.zero (.cons .nil))))) (.cons rfl rfl (.succ (.succ (.succ (.succ (.zero (.cons .nil)))))) (.cons rfl rfl (.succ (.succ (.succ (.succ (.succ (.zero (.cons .nil))))))) (.cons rfl rfl (.succ (.succ (.succ (.succ (.succ (.succ (.zero (.cons .nil)))))))) .nil))))))))) rfl (fun _ _ h => by exact h.drop 2) (fun _ _ => ?_); refine GE.U 23 (by as_aux_lemma => kernel_rfl) rfl rfl rfl (cf rfl rfl rfl rfl rfl rfl (.zero (.cons (.cons (.cons (.cons (.cons (.cons (.cons .nil))))))))) (fun _ _ => ?_); refine GE.E (by as_aux_lemma => kernel_rfl) ?_
                     rotate_left
                    rotate_left 4
                    focus
                     refine GE.I rfl rfl rfl (bu) rfl (fun _ _ h => by exact h.drop 2) (fun bk11 _ => ?_); refine GE.V 9 (by as_aux_lemma => kernel_rfl) rfl rfl (bS rfl rfl rfl (bA _ (by assumption) (by assumption)).toF) rfl (fun _ _ h => by exact h.drop 2) ?_; rintro ⟨xr, xi, xh⟩ ⟨⟨hx0, hx1⟩, hxi⟩; try dsimp only
                     refine GE.Y 10 rfl (by as_aux_lemma => kernel_rfl) rfl (bc (bD rfl rfl (by omega) (by omega))) (fun _ h => by exact h.drop 2) rfl ?_; refine GE.V 12 (by as_aux_lemma => kernel_rfl) rfl rfl (bG rfl rfl rfl (bA _ (by assumption) (by assumption)).toF) rfl (fun _ _ h => by exact h.drop 2) ?_; rintro ⟨xr, xi, xh⟩ ⟨⟨hx0, hx1⟩, hxi⟩; try dsimp only
                     refine GE.Y 13 rfl (by as_aux_lemma => kernel_rfl) rfl (bc (bD rfl rfl (by omega) (by omega))) (fun _ h => by exact h.drop 2) rfl ?_; refine GE.V 17 (by as_aux_lemma => kernel_rfl) rfl rfl (bG rfl rfl rfl (bA _ (by assumption) (by assumption)).toF) rfl (fun _ _ h => by exact h.drop 2) ?_; rintro ⟨xr, xi, xh⟩ ⟨⟨hx0, hx1⟩, hxi⟩; try dsimp only
                     refine GE.V 19 (by as_aux_lemma => kernel_rfl) rfl rfl (bG rfl rfl rfl (bA _ (by assumption) (by assumption)).toF) rfl (fun _ _ h => by exact h.drop 2) ?_; rintro ⟨ct, xi, xh⟩ ⟨⟨hct0, hct1⟩, hxi⟩; try dsimp only
                     refine GE.V 20 (by as_aux_lemma => kernel_rfl) rfl rfl (bd (bD rfl rfl (by omega) (by omega))) rfl (fun _ _ h => by exact h.drop 2) (fun _ _ => ?_); refine GE.V 21 (by as_aux_lemma => kernel_rfl) rfl rfl (bd (bJ rfl (.cons rfl (.cons rfl (.cons rfl (.cons rfl (.cons rfl (.cons rfl (.cons rfl .nil))))))) (.cons rfl rfl (.zero (.cons .nil)) (.cons rfl rfl (.succ (.zero (.cons .nil))) (.cons rfl rfl (.succ (.succ (.zero (.cons .nil)))) (.cons rfl rfl (.succ (.succ (.succ (.zero (.cons .nil))))) (.cons rfl rfl (.succ (.succ (.succ (.succ (.zero (.cons .nil)))))) (.cons rfl rfl (.succ (.succ (.succ (.succ (.succ (.zero (.cons .nil))))))) (.cons rfl rfl (.succ (.succ (.succ (.succ (.succ (.succ (.zero (.cons .nil)))))))) .nil))))))))) rfl (fun _ _ h => by exact h.drop 2) (fun _ _ => ?_); refine GE.U 23 (by as_aux_lemma => kernel_rfl) rfl rfl rfl (cf rfl rfl rfl rfl rfl rfl (.zero (.cons (.cons (.cons (.cons (.cons (.cons (.cons .nil))))))))) (fun _ _ => ?_); refine GE.E (by as_aux_lemma => kernel_rfl) ?_
                    rotate_left
                   rotate_left 5
                   focus
                    refine GE.I rfl rfl rfl (bu) rfl (fun _ _ h => by exact h.drop 2) (fun bk11 _ => ?_); refine GE.V 6 (by as_aux_lemma => kernel_rfl) rfl rfl (bS rfl rfl rfl (bA _ (by assumption) (by assumption)).toF) rfl (fun _ _ h => by exact h.drop 2) ?_; rintro ⟨xr, xi, xh⟩ ⟨⟨hx0, hx1⟩, hxi⟩; try dsimp only
                    refine GE.Y 7 rfl (by as_aux_lemma => kernel_rfl) rfl (bc (bD rfl rfl (by omega) (by omega))) (fun _ h => by exact h.drop 2) rfl ?_; refine GE.V 9 (by as_aux_lemma => kernel_rfl) rfl rfl (bG rfl rfl rfl (bA _ (by assumption) (by assumption)).toF) rfl (fun _ _ h => by exact h.drop 2) ?_; rintro ⟨xr, xi, xh⟩ ⟨⟨hx0, hx1⟩, hxi⟩; try dsimp only
                    refine GE.Y 10 rfl (by as_aux_lemma => kernel_rfl) rfl (bc (bD rfl rfl (by omega) (by omega))) (fun _ h => by exact h.drop 2) rfl ?_; refine GE.V 12 (by as_aux_lemma => kernel_rfl) rfl rfl (bG rfl rfl rfl (bA _ (by assumption) (by assumption)).toF) rfl (fun _ _ h => by exact h.drop 2) ?_; rintro ⟨xr, xi, xh⟩ ⟨⟨hx0, hx1⟩, hxi⟩; try dsimp only
                    refine GE.Y 13 rfl (by as_aux_lemma => kernel_rfl) rfl (bc (bD rfl rfl (by omega) (by omega))) (fun _ h => by exact h.drop 2) rfl ?_; refine GE.V 17 (by as_aux_lemma => kernel_rfl) rfl rfl (bG rfl rfl rfl (bA _ (by assumption) (by assumption)).toF) rfl (fun _ _ h => by exact h.drop 2) ?_; rintro ⟨xr, xi, xh⟩ ⟨⟨hx0, hx1⟩, hxi⟩; try dsimp only
                    refine GE.V 19 (by as_aux_lemma => kernel_rfl) rfl rfl (bG rfl rfl rfl (bA _ (by assumption) (by assumption)).toF) rfl (fun _ _ h => by exact h.drop 2) ?_; rintro ⟨ct, xi, xh⟩ ⟨⟨hct0, hct1⟩, hxi⟩; try dsimp only
                    refine GE.V 20 (by as_aux_lemma => kernel_rfl) rfl rfl (bd (bD rfl rfl (by omega) (by omega))) rfl (fun _ _ h => by exact h.drop 2) (fun _ _ => ?_); refine GE.V 21 (by as_aux_lemma => kernel_rfl) rfl rfl (bd (bJ rfl (.cons rfl (.cons rfl (.cons rfl (.cons rfl (.cons rfl (.cons rfl (.cons rfl .nil))))))) (.cons rfl rfl (.zero (.cons .nil)) (.cons rfl rfl (.succ (.zero (.cons .nil))) (.cons rfl rfl (.succ (.succ (.zero (.cons .nil)))) (.cons rfl rfl (.succ (.succ (.succ (.zero (.cons .nil))))) (.cons rfl rfl (.succ (.succ (.succ (.succ (.zero (.cons .nil)))))) (.cons rfl rfl (.succ (.succ (.succ (.succ (.succ (.zero (.cons .nil))))))) (.cons rfl rfl (.succ (.succ (.succ (.succ (.succ (.succ (.zero (.cons .nil)))))))) .nil))))))))) rfl (fun _ _ h => by exact h.drop 2) (fun _ _ => ?_); refine GE.U 23 (by as_aux_lemma => kernel_rfl) rfl rfl rfl (cf rfl rfl rfl rfl rfl rfl (.zero (.cons (.cons (.cons (.cons (.cons (.cons (.cons .nil))))))))) (fun _ _ => ?_); refine GE.E (by as_aux_lemma => kernel_rfl) ?_
                   rotate_left
                  rotate_left 6
                  focus
                   refine GE.I rfl rfl rfl (bu) rfl (fun _ _ h => by exact h.drop 2) (fun bk11 _ => ?_); refine GE.V 3 (by as_aux_lemma => kernel_rfl) rfl rfl (bS rfl rfl rfl (bA _ (by assumption) (by assumption)).toF) rfl (fun _ _ h => by exact h.drop 2) ?_; rintro ⟨xr, xi, xh⟩ ⟨⟨hx0, hx1⟩, hxi⟩; try dsimp only
                   refine GE.Y 4 rfl (by as_aux_lemma => kernel_rfl) rfl (bc (bD rfl rfl (by omega) (by omega))) (fun _ h => by exact h.drop 2) rfl ?_; refine GE.V 6 (by as_aux_lemma => kernel_rfl) rfl rfl (bG rfl rfl rfl (bA _ (by assumption) (by assumption)).toF) rfl (fun _ _ h => by exact h.drop 2) ?_; rintro ⟨xr, xi, xh⟩ ⟨⟨hx0, hx1⟩, hxi⟩; try dsimp only
                   refine GE.Y 7 rfl (by as_aux_lemma => kernel_rfl) rfl (bc (bD rfl rfl (by omega) (by omega))) (fun _ h => by exact h.drop 2) rfl ?_; refine GE.V 9 (by as_aux_lemma => kernel_rfl) rfl rfl (bG rfl rfl rfl (bA _ (by assumption) (by assumption)).toF) rfl (fun _ _ h => by exact h.drop 2) ?_; rintro ⟨xr, xi, xh⟩ ⟨⟨hx0, hx1⟩, hxi⟩; try dsimp only
                   refine GE.Y 10 rfl (by as_aux_lemma => kernel_rfl) rfl (bc (bD rfl rfl (by omega) (by omega))) (fun _ h => by exact h.drop 2) rfl ?_; refine GE.V 12 (by as_aux_lemma => kernel_rfl) rfl rfl (bG rfl rfl rfl (bA _ (by assumption) (by assumption)).toF) rfl (fun _ _ h => by exact h.drop 2) ?_; rintro ⟨xr, xi, xh⟩ ⟨⟨hx0, hx1⟩, hxi⟩; try dsimp only
                   refine GE.Y 13 rfl (by as_aux_lemma => kernel_rfl) rfl (bc (bD rfl rfl (by omega) (by omega))) (fun _ h => by exact h.drop 2) rfl ?_; refine GE.V 17 (by as_aux_lemma => kernel_rfl) rfl rfl (bG rfl rfl rfl (bA _ (by assumption) (by assumption)).toF) rfl (fun _ _ h => by exact h.drop 2) ?_; rintro ⟨xr, xi, xh⟩ ⟨⟨hx0, hx1⟩, hxi⟩; try dsimp only
                   refine GE.V 19 (by as_aux_lemma => kernel_rfl) rfl rfl (bG rfl rfl rfl (bA _ (by assumption) (by assumption)).toF) rfl (fun _ _ h => by exact h.drop 2) ?_; rintro ⟨ct, xi, xh⟩ ⟨⟨hct0, hct1⟩, hxi⟩; try dsimp only
                   refine GE.V 20 (by as_aux_lemma => kernel_rfl) rfl rfl (bd (bD rfl rfl (by omega) (by omega))) rfl (fun _ _ h => by exact h.drop 2) (fun _ _ => ?_); refine GE.V 21 (by as_aux_lemma => kernel_rfl) rfl rfl (bd (bJ rfl (.cons rfl (.cons rfl (.cons rfl (.cons rfl (.cons rfl (.cons rfl (.cons rfl .nil))))))) (.cons rfl rfl (.zero (.cons .nil)) (.cons rfl rfl (.succ (.zero (.cons .nil))) (.cons rfl rfl (.succ (.succ (.zero (.cons .nil)))) (.cons rfl rfl (.succ (.succ (.succ (.zero (.cons .nil))))) (.cons rfl rfl (.succ (.succ (.succ (.succ (.zero (.cons .nil)))))) (.cons rfl rfl (.succ (.succ (.succ (.succ (.succ (.zero (.cons .nil))))))) (.cons rfl rfl (.succ (.succ (.succ (.succ (.succ (.succ (.zero (.cons .nil)))))))) .nil))))))))) rfl (fun _ _ h => by exact h.drop 2) (fun _ _ => ?_); refine GE.U 23 (by as_aux_lemma => kernel_rfl) rfl rfl rfl (cf rfl rfl rfl rfl rfl rfl (.zero (.cons (.cons (.cons (.cons (.cons (.cons (.cons .nil))))))))) (fun _ _ => ?_); refine GE.E (by as_aux_lemma => kernel_rfl) ?_
                  rotate_left
                  all_goals
                   first | refine G.bw cb rfl ?_ | refine G.bh cb rfl ?_
                   refine G.bh bk11 rfl ?_; refine G.cutEnd (_, (_, _, _, _, _, _, _), _, _) 0 rfl (.cons rfl (.cons rfl (.cons rfl (.cons rfl (.cons rfl (.cons rfl (.nil))))))) ?_ ?_
                   exact ⟨rfl, trivial⟩
                   exact ⟨⟨by dsimp only; omega, by dsimp only; omega⟩, by assumption⟩
                 rintro ⟨bk4, ⟨xid, xw, xh2, xd, xg, xc, ct⟩, xi, xh⟩ ⟨⟨hct0, hct1⟩, hxi⟩
                 dsimp only at hct0 hct1 hxi ⊢
                 refine G.E (G.seq (G.seq (G.region (G.v (ba rfl) rfl ?_)))); refine G.op (bS rfl rfl rfl (l1Once_any _ (by assumption) (by assumption)).toF) rfl ?_; rintro ⟨xr, xi, xh⟩ hxi; try dsimp only
                 refine G.I (G.E ?_); refine G.cond rfl (fun hc => ?_) (fun hc => ?_)
                 · all_goals
                    all_goals
                     refine G.seq (G.region (G.v (be rfl) rfl ?_)); refine G.bk (cf rfl rfl rfl rfl rfl rfl (.succ (.zero (.cons .nil)))) (fun _ _ => ?_); refine G.I (G.E (G.seq (G.region (G.v (be rfl) rfl ?_)))); refine G.bk (cf rfl rfl rfl rfl rfl rfl (.succ (.succ (.zero (.cons .nil))))) (fun _ _ => ?_); refine G.I (G.E (G.region (G.v (ba rfl) rfl ?_))); refine G.op (bG rfl rfl rfl (bA _ (by assumption) (by assumption)).toF) rfl ?_; rintro ⟨xr, xi, xh⟩ ⟨⟨hx0, hx1⟩, hxi⟩; try dsimp only
                     refine G.v (bD rfl rfl (by omega) (by omega)) rfl ?_; refine G.v (be rfl) rfl ?_; refine G.bk (cf rfl rfl rfl rfl rfl rfl (.succ (.succ (.succ (.zero (.cons .nil)))))) (fun _ _ => ?_); refine G.I (G.E (G.seq (G.region (G.v (ba rfl) rfl (G.v (be rfl) rfl (G.v (bf 1 rfl rfl rfl) rfl ?_)))))); refine G.v (bD rfl rfl (by omega) (by omega)) rfl ?_; refine G.v (ci rfl rfl) rfl (G.I (G.E ?_)); refine G.cond rfl (fun hc => ?_) (fun hc => ?_)
                     · all_goals
                        replace hc := of_decide_eq_true hc
                        all_goals
                         refine G.seq (G.region (G.v (be rfl) rfl (G.v (bf 2 rfl rfl rfl) rfl (G.v (bj 1 rfl rfl rfl) rfl ?_)))); refine G.op (bq rfl (.cons rfl .nil) rfl rfl rfl rfl rfl rfl) rfl (fun vx _ => ?_); refine G.op (cZ rfl rfl rfl (by exact Rd.ba 0 rfl) rfl rfl (by (simp; omega)) (by (simp; omega))) rfl (fun iv2 _ => ?_); refine G.know (fun w hw => by exact (Rd.ba 4 rfl (v := iv2) w hw).one_) (fun hoiv2 => ?_); refine G.v (be rfl) rfl ?_; refine G.bk (og_st3 rfl rfl rfl (bK (by assumption)) rfl (by repeat (first | rfl | refine bB (by assumption) ?_)) (.succ (.succ (.succ (.succ (.succ (.succ (.succ (.succ (.succ (.zero (.cons .nil)))))))))))) (fun _ _ => ?_); refine G.I (G.E (G.region (G.v (ba rfl) rfl (G.v (be rfl) rfl (G.v (bf 2 rfl rfl rfl) rfl ?_))))); refine G.v (bD rfl rfl (by omega) (by omega)) rfl ?_; refine G.v (bb rfl) rfl (G.I (G.bc (G.E (G.region (G.v (ba rfl) rfl ?_))))); refine G.v (bp rfl rfl (by omega)) rfl ?_; refine G.v (bb rfl) rfl (G.I ?_); refine G.bh cb rfl ?_; refine G.bp iv2 rfl ?_; refine G.frontB4 bk3 rfl ?_
                         refine G.bJ 2 rfl ?_; refine G.V (j + 1, un + ct, iv2, its ++ [⟨_, _, _, _, _, _, _⟩], _, _) 0 (by (exact de rfl (congrArg (fun z => Ch.row iv2 111 7 z) (by rw [List.map_append]; rfl)) rfl)) (.cons rfl (.cons rfl (.cons rfl (.cons rfl (.nil))))) ?_ ?_ ?_
                         exact ⟨rfl, rfl, trivial⟩
                         exact ⟨⟨by dsimp only; omega, by simp; omega, by dsimp only; omega, by dsimp only; omega⟩, by assumption⟩
                         dsimp only; omega
                     · all_goals
                        replace hc := of_decide_eq_false hc
                        all_goals
                         refine G.skip (G.bc (G.E (G.region (G.v (ba rfl) rfl ?_)))); refine G.v (bp rfl rfl (by omega)) rfl ?_; refine G.v (bb rfl) rfl (G.I ?_); refine G.bw cb rfl ?_; refine G.bi iv rfl ?_; refine G.bH bk3 rfl ?_; refine G.bJ 1 rfl ?_; refine G.V (j + 1, un, iv, its, _, _) 0 (by exact de rfl rfl rfl) (.cons rfl (.cons rfl (.cons rfl (.cons rfl (.nil))))) ?_ ?_ ?_
                         exact ⟨rfl, rfl, trivial⟩
                         exact ⟨⟨by dsimp only; omega, by simp; omega, by dsimp only; omega, by dsimp only; omega⟩, by assumption⟩
                         dsimp only; omega
                 · all_goals
                    all_goals
                     refine G.skip (G.E (G.seq (G.region (G.v (ba rfl) rfl (G.v (be rfl) rfl (G.v (bf 1 rfl rfl rfl) rfl ?_)))))); refine G.v (bD rfl rfl (by omega) (by omega)) rfl ?_; refine G.v (ci rfl rfl) rfl (G.I (G.E ?_)); refine G.cond rfl (fun hc => ?_) (fun hc => ?_)
                     · all_goals
                        replace hc := of_decide_eq_true hc
                        all_goals
                         refine G.seq (G.region (G.v (be rfl) rfl (G.v (bf 2 rfl rfl rfl) rfl (G.v (bj 1 rfl rfl rfl) rfl ?_)))); refine G.op (bq rfl (.cons rfl .nil) rfl rfl rfl rfl rfl rfl) rfl (fun vx _ => ?_); refine G.op (cZ rfl rfl rfl (by exact Rd.ba 0 rfl) rfl rfl (by (simp; omega)) (by (simp; omega))) rfl (fun iv2 _ => ?_); refine G.know (fun w hw => by exact (Rd.ba 4 rfl (v := iv2) w hw).one_) (fun hoiv2 => ?_); refine G.v (be rfl) rfl ?_; refine G.bk (og_st3 rfl rfl rfl (bK (by assumption)) rfl (by repeat (first | rfl | refine bB (by assumption) ?_)) (.succ (.succ (.succ (.succ (.succ (.succ (.succ (.succ (.succ (.zero (.cons .nil)))))))))))) (fun _ _ => ?_); refine G.I (G.E (G.region (G.v (ba rfl) rfl (G.v (be rfl) rfl (G.v (bf 2 rfl rfl rfl) rfl ?_))))); refine G.v (bD rfl rfl (by omega) (by omega)) rfl ?_; refine G.v (bb rfl) rfl (G.I (G.bc (G.E (G.region (G.v (ba rfl) rfl ?_))))); refine G.v (bp rfl rfl (by omega)) rfl ?_; refine G.v (bb rfl) rfl (G.I ?_); refine G.bh cb rfl ?_; refine G.bp iv2 rfl ?_; refine G.frontB4 bk3 rfl ?_
                         refine G.bJ 2 rfl ?_; refine G.V (j + 1, un + ct, iv2, its ++ [⟨_, _, _, _, _, _, _⟩], _, _) 0 (by (exact de rfl (congrArg (fun z => Ch.row iv2 111 7 z) (by rw [List.map_append]; rfl)) rfl)) (.cons rfl (.cons rfl (.cons rfl (.cons rfl (.nil))))) ?_ ?_ ?_
                         exact ⟨rfl, rfl, trivial⟩
                         exact ⟨⟨by dsimp only; omega, by simp; omega, by dsimp only; omega, by dsimp only; omega⟩, by assumption⟩
                         dsimp only; omega
                     · all_goals
                        replace hc := of_decide_eq_false hc
                        all_goals
                         refine G.skip (G.bc (G.E (G.region (G.v (ba rfl) rfl ?_)))); refine G.v (bp rfl rfl (by omega)) rfl ?_; refine G.v (bb rfl) rfl (G.I ?_); refine G.bw cb rfl ?_; refine G.bi iv rfl ?_; refine G.bH bk3 rfl ?_; refine G.bJ 1 rfl ?_; refine G.V (j + 1, un, iv, its, _, _) 0 (by exact de rfl rfl rfl) (.cons rfl (.cons rfl (.cons rfl (.cons rfl (.nil))))) ?_ ?_ ?_
                         exact ⟨rfl, rfl, trivial⟩
                         exact ⟨⟨by dsimp only; omega, by simp; omega, by dsimp only; omega, by dsimp only; omega⟩, by assumption⟩
                         dsimp only; omega
             · all_goals
                replace hc := of_decide_eq_false hc
                all_goals
                 refine G.exit (G.L (G.L (G.bn (G.E (G.seq (G.region (G.v (bj 0 rfl rfl rfl) rfl ?_))))))); refine G.know (fun w hw => by exact (Rd.ba 1 rfl (v := iv) w hw).one_) (fun hoiv => ?_); refine G.know (fun w hw => by exact (Rd.ba 3 rfl (v := tv) w hw).one_) (fun hotv => ?_); refine G.know (fun w hw => by exact (Rd.ba 4 rfl (v := pv) w hw).one_) (fun hopv => ?_); refine G.bk (og_st9 rfl rfl rfl rfl rfl (by repeat (first | rfl | refine bB (by first | rfl | assumption) ?_)) (.zero (.cons (.cons (.cons (.cons (.cons (.cons (.cons (.cons (.cons (.cons .nil)))))))))))) (fun _ _ => ?_); refine G.I (G.E (G.ret ?_)); refine G.bx cb rfl ?_; refine G.bp pv rfl ?_; refine G.bp tv rfl ?_; refine G.bp iv rfl ?_
                 exact G.bu ((⟨wy, ⟨pw, pd, ph, pg⟩, 1 + (cl : Int), ps, ty, 7, its⟩, pv, tv, iv), xi, xh) ⟨⟨⟨hopv, hotv, hoiv⟩, by dsimp only; omega, by dsimp only; omega, by dsimp only; omega, by dsimp only; omega, htf⟩, hxi⟩ 9 rfl rfl rfl rfl rfl (fun w hh => hh.sublist (by repeat (first | exact List.Sublist.refl _ | refine List.Sublist.cons_cons _ ?_ | refine List.Sublist.cons _ ?_)))
end Go.Proofs.YtglpgohilfoecaaGreat

/-
  An order that the draws hand out, with one thing turned.
-/
namespace Go.Proofs.YtglpgohilfoecaaGreat
open Go.RowKit
attribute [local irreducible] Go.wpList Go.Code.wp Go.Exit.then Go.Exit.inBlock Go.bodyPost Go.Calls pE pB G RunsV FnV Fn FnM
set_option maxRecDepth 100000
set_option maxHeartbeats 4000000
theorem TyFar.set {l : List TypeM} {k : Nat} {t s : TypeM} (h : TyFar l) (ht : l[k]? = some t) (a : s.id = t.id) (b : s.cost = t.cost) : TyFar (l.set k s) := fun u hu => by
  rcases List.mem_or_eq_of_mem_set hu with hu | hu
  · exact h u hu
  · have := h t (List.mem_of_getElem? ht)
    rw [hu, a, b]; exact this
theorem TyFar.head {l : List TypeM} {t s : TypeM} (h : TyFar (t :: l)) (a : s.id = t.id) (b : s.cost = t.cost) : TyFar (s :: l) := TyFar.set (k := 0) h rfl a b
theorem TyFar.dbl {l : List TypeM} {t : TypeM} (h : TyFar (t :: l)) : TyFar (t :: l ++ [t]) := h.snoc (h t List.mem_cons_self).1 (h t List.mem_cons_self).2
theorem TyFar.nil : TyFar [] := fun _ h => absurd h List.not_mem_nil
theorem l2Draw_any {w0 : World} {v : Value} {l : List Int} {cb i : Nat} {h : Int} (hv : Rd w0 v 1 (l.map bcell)) (hi : i ≤ l.length) :
    FnM Tryz.prog 126 [pB cb 0] w0 [.blk cb 182 [v, .int .i64 i, .int .i64 h]] (fun x : ((ReqM × Value × Value × Value) × Value × List (List Value)) × Nat × Int => ((x.1.1.2.1.oneCell' = true ∧ x.1.1.2.2.1.oneCell' = true ∧ x.1.1.2.2.2.oneCell' = true) ∧ (∀ w, Rd w x.1.2.1 2 x.1.2.2 → Rd w x.1.1.2.1 2 (x.1.1.1.pairs.map PairM.cells)) ∧ x.1.1.1.pairs.length ≤ 33 ∧ x.1.1.1.types.length ≤ 9 ∧ x.1.1.1.items.length ≤ 7 ∧ TyFar x.1.1.1.types) ∧ x.2.1 ≤ l.length)
      (fun x => .agg (x.1.1.1.cells x.1.1.2.1 x.1.1.2.2.1 x.1.1.2.2.2).toArray) (fun x => [.row x.1.1.2.2.2 111 7 (x.1.1.1.items.map ItemM.cells), .row x.1.1.2.2.1 56 7 (x.1.1.1.types.map TypeM.cells), .row x.1.2.1 138 2 x.1.2.2, .blk cb 182 [v, .int .i64 x.2.1, .int .i64 x.2.2]]) := by
  refine FnM.of (n := 120) Tryz.func126 rfl rfl (fun F => ?_); refine G.seq (G.region ?_); refine G.op (bu) rfl (fun bk2 _ => ?_); refine G.I (G.E (G.seq (G.region (G.v (ba rfl) rfl ?_))))
  (refine G.bh cb rfl ?_); refine G.op (og_callN0 rfl rfl rfl (l2Right_any (by assumption) (by assumption)).toF) rfl ?_; rintro ⟨⟨r, pv, tv, iv⟩, xi, xh⟩ ⟨⟨⟨hopv, hotv, hoiv⟩, hpl, htl1, htl, hil, htf⟩, hxi⟩; try dsimp only
  obtain ⟨wy, ⟨pw, pd, ph, pg⟩, cl, ps, ty, ms, its⟩ := r; try dsimp only [ReqM.cells] at hpl htl1 htl hil ⊢
  obtain ⟨t0, tr, rfl⟩ : ∃ t0 tr, ty = t0 :: tr := (by cases ty with | nil => exact absurd htl1 (by decide) | cons a b => exact ⟨a, b, rfl⟩)
  have htr : tr.length ≤ 7 := Nat.le_of_succ_le_succ htl; replace hxi : xi ≤ l.length := hxi
  refine G.op (bu) rfl (fun bk3 _ => ?_); refine G.bk (bL rfl rfl rfl rfl rfl (by repeat (first | rfl | refine bB (by first | rfl | assumption) ?_)) (.zero (.cons (.cons (.cons (.cons (.cons (.cons (.cons (.cons (.cons (.cons .nil)))))))))))) (fun _ _ => ?_); refine G.I (G.E (G.seq (G.region (G.v (ba rfl) rfl ?_)))); refine G.op (bq rfl (.cons rfl (.cons rfl (.cons rfl (.cons rfl (.cons rfl (.cons rfl .nil)))))) rfl rfl rfl rfl rfl rfl) rfl (fun vl _ => ?_); refine G.op (og_callM5 rfl rfl rfl (bM (by exact Rd.ba 0 rfl) rfl rfl (by assumption) (by assumption))) rfl ?_; rintro ⟨far, xi, xh⟩ ⟨hxm, hxi⟩; try dsimp only
  refine G.v (bb rfl) rfl (G.I (G.E (G.seq (G.seq (G.region (G.v (ba rfl) rfl ?_)))))); refine G.op (bG rfl rfl rfl (bA _ (by assumption) (by assumption)).toF) rfl ?_; rintro ⟨xr, xi, xh⟩ ⟨⟨hx0, hx1⟩, hxi⟩; try dsimp only
  refine G.I (G.E (G.block (G.seq (G.region (G.v (bQ rfl rfl) rfl (G.v (bb rfl) rfl (G.I (G.E ?_)))))))); refine G.bd rfl (fun hc => ?_) (fun hc => ?_)
  · refine G.region ?_
    refine G.v (ba rfl) rfl ?_; refine G.op (bq rfl (.cons rfl (.cons rfl .nil)) rfl rfl rfl rfl rfl rfl) rfl (fun vl _ => ?_); refine G.op (bS rfl rfl rfl (bM (by exact Rd.ba 0 rfl) rfl rfl (by assumption) (by assumption))) rfl ?_; rintro ⟨xr, xi, xh⟩ ⟨hxm, hxi⟩; try dsimp only
    refine G.v (be rfl) rfl ?_; refine G.bk (og_st3 rfl rfl rfl rfl rfl rfl (.zero (.cons .nil))) (fun _ _ => ?_); refine G.I (G.bc (G.E (G.seq (G.region (G.v (bj 3 rfl rfl rfl) rfl ?_))))); refine G.bk (dQ rfl rfl rfl rfl rfl (by repeat (first | rfl | refine bB (by first | rfl | assumption) ?_)) (.zero (.cons (.cons (.cons (.cons (.cons (.cons (.cons (.cons (.cons (.cons .nil)))))))))))) (fun _ _ => ?_); refine G.I (G.E (G.ret ?_))
    (refine G.bz bk2 rfl ?_); (refine G.bh cb rfl ?_); (refine G.bj pv rfl ?_); (refine G.bj tv rfl ?_); (refine G.bj iv rfl ?_); refine G.bu (((⟨_, ⟨_, _, _, _⟩, _, ps, t0 :: tr, _, its⟩, pv, tv, iv), pv, ps.map PairM.cells), xi, xh) ⟨⟨⟨(by assumption), (by assumption), (by assumption)⟩, fun _ h => h, (by (dsimp only at *; omega)), (by (dsimp only at *; omega)), (by (dsimp only at *; omega)), (by exact htf)⟩, hxi⟩ 4 rfl rfl rfl rfl rfl (fun w hh => hh.sublist ?_); (repeat (first | exact List.Sublist.refl _ | refine List.Sublist.cons_cons _ ?_ | refine List.Sublist.cons _ ?_)); done
  refine G.seq (G.region (G.v (bQ rfl rfl) rfl (G.v (bb rfl) rfl (G.I (G.E ?_))))); refine G.bd rfl (fun hc => ?_) (fun hc => ?_)
  · refine G.region ?_
    refine G.v (ba rfl) rfl (G.v (be rfl) rfl (G.v (be rfl) rfl ?_)); refine G.bk (dN rfl rfl rfl rfl rfl rfl (.succ (.zero (.cons .nil)))) (fun _ _ => ?_); refine G.I (G.bc (G.E (G.seq (G.region (G.v (bj 2 rfl rfl rfl) rfl ?_))))); refine G.bk (dP rfl rfl rfl rfl rfl (by repeat (first | rfl | refine bB (by first | rfl | assumption) ?_)) (.zero (.cons (.cons (.cons (.cons (.cons (.cons (.cons (.cons (.cons (.cons .nil)))))))))))) (fun _ _ => ?_); refine G.I (G.E (G.ret ?_))
    (refine G.bD bk2 rfl ?_); (refine G.bh cb rfl ?_); (refine G.bf pv rfl ?_); (refine G.bf tv rfl ?_); (refine G.bf iv rfl ?_); refine G.bu (((⟨_, ⟨_, _, _, _⟩, _, ps, t0 :: tr, _, its⟩, pv, tv, iv), pv, ps.map PairM.cells), xi, xh) ⟨⟨⟨(by assumption), (by assumption), (by assumption)⟩, fun _ h => h, (by (dsimp only at *; omega)), (by (dsimp only at *; omega)), (by (dsimp only at *; omega)), (by exact htf)⟩, hxi⟩ 4 rfl rfl rfl rfl rfl (fun w hh => hh.sublist ?_); (repeat (first | exact List.Sublist.refl _ | refine List.Sublist.cons_cons _ ?_ | refine List.Sublist.cons _ ?_)); done
  refine G.seq (G.region (G.v (bQ rfl rfl) rfl (G.v (bb rfl) rfl (G.I (G.E ?_))))); refine G.bd rfl (fun hc => ?_) (fun hc => ?_)
  · refine G.region ?_
    refine G.v (ba rfl) rfl (G.v (be rfl) rfl (G.v (be rfl) rfl ?_)); refine G.bk (dN rfl rfl rfl rfl rfl rfl (.succ (.succ (.succ (.succ (.zero (.cons .nil))))))) (fun _ _ => ?_); refine G.I (G.bc (G.E (G.seq (G.region (G.v (bj 2 rfl rfl rfl) rfl ?_))))); refine G.bk (dP rfl rfl rfl rfl rfl (by repeat (first | rfl | refine bB (by first | rfl | assumption) ?_)) (.zero (.cons (.cons (.cons (.cons (.cons (.cons (.cons (.cons (.cons (.cons .nil)))))))))))) (fun _ _ => ?_); refine G.I (G.E (G.ret ?_))
    (refine G.bD bk2 rfl ?_); (refine G.bh cb rfl ?_); (refine G.bf pv rfl ?_); (refine G.bf tv rfl ?_); (refine G.bf iv rfl ?_); refine G.bu (((⟨_, ⟨_, _, _, _⟩, _, ps, t0 :: tr, _, its⟩, pv, tv, iv), pv, ps.map PairM.cells), xi, xh) ⟨⟨⟨(by assumption), (by assumption), (by assumption)⟩, fun _ h => h, (by (dsimp only at *; omega)), (by (dsimp only at *; omega)), (by (dsimp only at *; omega)), (by exact htf)⟩, hxi⟩ 4 rfl rfl rfl rfl rfl (fun w hh => hh.sublist ?_); (repeat (first | exact List.Sublist.refl _ | refine List.Sublist.cons_cons _ ?_ | refine List.Sublist.cons _ ?_)); done
  refine G.seq (G.region (G.v (bQ rfl rfl) rfl (G.v (bb rfl) rfl (G.I (G.E ?_))))); refine G.bd rfl (fun hc => ?_) (fun hc => ?_)
  · refine G.region ?_
    refine G.v (ba rfl) rfl ?_; refine G.op (bq rfl (.cons rfl (.cons rfl (.cons rfl .nil))) rfl rfl rfl rfl rfl rfl) rfl (fun vl _ => ?_); refine G.op (bS rfl rfl rfl (bM (by exact Rd.ba 0 rfl) rfl rfl (by assumption) (by assumption))) rfl ?_; rintro ⟨xr, xi, xh⟩ ⟨hxm, hxi⟩; try dsimp only
    refine G.v (be rfl) rfl ?_; refine G.bk (og_st3 rfl rfl rfl rfl rfl rfl (.succ (.succ (.succ (.succ (.succ (.zero (.cons .nil)))))))) (fun _ _ => ?_); refine G.I (G.bc (G.E (G.seq (G.region (G.v (bj 3 rfl rfl rfl) rfl ?_))))); refine G.bk (dQ rfl rfl rfl rfl rfl (by repeat (first | rfl | refine bB (by first | rfl | assumption) ?_)) (.zero (.cons (.cons (.cons (.cons (.cons (.cons (.cons (.cons (.cons (.cons .nil)))))))))))) (fun _ _ => ?_); refine G.I (G.E (G.ret ?_))
    (refine G.bz bk2 rfl ?_); (refine G.bh cb rfl ?_); (refine G.bj pv rfl ?_); (refine G.bj tv rfl ?_); (refine G.bj iv rfl ?_); refine G.bu (((⟨_, ⟨_, _, _, _⟩, _, ps, t0 :: tr, _, its⟩, pv, tv, iv), pv, ps.map PairM.cells), xi, xh) ⟨⟨⟨(by assumption), (by assumption), (by assumption)⟩, fun _ h => h, (by (dsimp only at *; omega)), (by (dsimp only at *; omega)), (by (dsimp only at *; omega)), (by exact htf)⟩, hxi⟩ 4 rfl rfl rfl rfl rfl (fun w hh => hh.sublist ?_); (repeat (first | exact List.Sublist.refl _ | refine List.Sublist.cons_cons _ ?_ | refine List.Sublist.cons _ ?_)); done
  refine G.seq (G.region (G.v (bQ rfl rfl) rfl (G.v (bb rfl) rfl (G.I (G.E ?_))))); refine G.bd rfl (fun hc => ?_) (fun hc => ?_)
  · refine G.bw cb rfl ?_
    refine G.bB pv rfl ?_; refine G.drawD2 [10, 11] rfl ?_; refine GE.Y 0 rfl (by as_aux_lemma => kernel_rfl) rfl (bc (be rfl)) (fun _ h => by exact h.drop 2) rfl ?_; refine GE.Y 1 rfl (by as_aux_lemma => kernel_rfl) rfl (bc (bf 1 rfl rfl rfl)) (fun _ h => by exact h.drop 2) rfl ?_; refine GE.Y 2 rfl (by as_aux_lemma => kernel_rfl) rfl (bc (ba rfl)) (fun _ h => by exact h.drop 2) rfl ?_; refine GE.Y 5 rfl (by as_aux_lemma => kernel_rfl) rfl (bc (ba rfl)) (fun _ h => by exact h.drop 2) rfl ?_; refine GE.V 3 (by as_aux_lemma => kernel_rfl) rfl rfl (bS rfl rfl rfl (bA _ (by assumption) (by assumption)).toF) rfl (fun _ _ h => by exact h.drop 2) ?_; rintro ⟨xa, xi, xh⟩ ⟨⟨hx0, hx1⟩, hxi⟩; try dsimp only
    refine GE.Y 4 rfl (by as_aux_lemma => kernel_rfl) rfl (bc (b8 rfl rfl (by omega) (by omega))) (fun _ h => by exact h.drop 2) rfl ?_; refine GE.V 6 (by as_aux_lemma => kernel_rfl) rfl rfl (bG rfl rfl rfl (bA _ (by assumption) (by assumption)).toF) rfl (fun _ _ h => by exact h.drop 2) ?_; rintro ⟨xb, xi, xh⟩ ⟨⟨hy0, hy1⟩, hxi⟩; try dsimp only
    refine GE.V 7 (by as_aux_lemma => kernel_rfl) rfl rfl (bd (bJ rfl (.cons rfl (.cons rfl .nil)) (.cons rfl rfl (.zero (.cons .nil)) (.cons rfl rfl (.succ (.zero (.cons .nil))) .nil)))) rfl (fun _ _ h => by exact h.drop 2) (fun _ _ => ?_); refine GE.V 8 (by as_aux_lemma => kernel_rfl) rfl rfl (bq rfl (.cons rfl .nil) rfl rfl rfl rfl rfl rfl) rfl (fun _ _ h => by exact h.drop 3) (fun vl _ => ?_); refine GE.V 9 (by as_aux_lemma => kernel_rfl) rfl rfl (cC rfl rfl rfl (by exact Rd.ba 0 rfl) rfl rfl (by (simp; omega)) (by (simp; omega))) rfl (fun _ _ h => by exact h.drop 3) (fun vp _ => ?_); refine GE.L (fun w hw => by exact (Rd.ba 2 rfl (v := vp) w hw).one_) (fun hovp => ?_); refine GE.t 10 (by as_aux_lemma => kernel_rfl) rfl rfl rfl (bd (be rfl)) rfl (fun _ _ => ?_); refine GE.U 11 (by as_aux_lemma => kernel_rfl) rfl rfl rfl (og_st4 rfl rfl rfl (bK (by assumption)) rfl (by repeat (first | rfl | refine bB (by assumption) ?_)) (.succ (.succ (.succ (.succ (.succ (.succ (.zero (.cons .nil))))))))) (fun _ _ => ?_); refine GE.E (by as_aux_lemma => kernel_rfl) ?_; refine G.bc (G.E (G.seq (G.region (G.v (bj 4 rfl rfl rfl) rfl ?_)))); refine G.bk (dQ rfl rfl rfl rfl rfl (by repeat (first | rfl | refine bB (by first | rfl | assumption) ?_)) (.zero (.cons (.cons (.cons (.cons (.cons (.cons (.cons (.cons (.cons (.cons .nil)))))))))))) (fun _ _ => ?_); refine G.I ?_
    refine G.E (G.ret ?_)
    (refine G.bz bk2 rfl ?_); (refine G.bx cb rfl ?_); (refine G.bi vp rfl ?_); refine G.bo ((ps ++ [(⟨xa - 1, xb⟩ : PairM)]).map PairM.cells) (by rw [List.map_append]; rfl) rfl ?_; (refine G.bj tv rfl ?_); (refine G.bj iv rfl ?_); refine G.bu (((⟨_, ⟨_, _, _, _⟩, _, ps ++ [⟨xa - 1, xb⟩], t0 :: tr, _, its⟩, vp, tv, iv), vp, (ps ++ [(⟨xa - 1, xb⟩ : PairM)]).map PairM.cells), xi, xh) ⟨⟨⟨(by assumption), (by assumption), (by assumption)⟩, fun _ h => h, (by (simp only [List.length_cons, List.length_append, List.length_nil, List.length_set, List.length_drop] at *; omega)), (by (dsimp only at *; omega)), (by (dsimp only at *; omega)), (by exact htf)⟩, hxi⟩ 4 rfl rfl rfl rfl rfl (fun w hh => hh.sublist ?_); (repeat (first | exact List.Sublist.refl _ | refine List.Sublist.cons_cons _ ?_ | refine List.Sublist.cons _ ?_)); done
  refine G.seq (G.region (G.v (bQ rfl rfl) rfl (G.v (bb rfl) rfl (G.I (G.E ?_))))); refine G.bd rfl (fun hc => ?_) (fun hc => ?_)
  · refine G.region ?_
    refine G.v (be rfl) rfl (G.v (bf 2 rfl rfl rfl) rfl (G.v (ba rfl) rfl ?_)); refine G.v (bg rfl rfl (by exact Rd.ba 4 rfl) rfl (by rfl)) rfl ?_; refine G.v (bo rfl) rfl ?_; refine G.bk (og_stE4 rfl rfl rfl (by rfl) rfl rfl rfl rfl (.succ (.succ (.zero (.cons .nil))))) (fun _ _ => ?_); refine G.I (G.bc (G.E (G.seq (G.region (G.v (bj 2 rfl rfl rfl) rfl ?_))))); refine G.bk (dP rfl rfl rfl rfl rfl (by repeat (first | rfl | refine bB (by first | rfl | assumption) ?_)) (.zero (.cons (.cons (.cons (.cons (.cons (.cons (.cons (.cons (.cons (.cons .nil)))))))))))) (fun _ _ => ?_); refine G.I (G.E (G.ret ?_))
    (refine G.bD bk2 rfl ?_); (refine G.bh cb rfl ?_); (refine G.bf pv rfl ?_); (refine G.bf tv rfl ?_); refine G.bo (({ t0 with h := far } :: tr).map TypeM.cells) rfl rfl ?_; (refine G.bf iv rfl ?_); refine G.bu (((⟨_, ⟨_, _, _, _⟩, _, ps, { t0 with h := far } :: tr, _, its⟩, pv, tv, iv), pv, ps.map PairM.cells), xi, xh) ⟨⟨⟨(by assumption), (by assumption), (by assumption)⟩, fun _ h => h, (by (dsimp only at *; omega)), (by (simp only [List.length_cons, List.length_append, List.length_nil, List.length_set, List.length_drop] at *; omega)), (by (dsimp only at *; omega)), (by exact htf.head rfl rfl)⟩, hxi⟩ 4 rfl rfl rfl rfl rfl (fun w hh => hh.sublist ?_); (repeat (first | exact List.Sublist.refl _ | refine List.Sublist.cons_cons _ ?_ | refine List.Sublist.cons _ ?_)); done
  refine G.seq (G.region (G.v (bQ rfl rfl) rfl (G.v (bb rfl) rfl (G.I (G.E ?_))))); refine G.bd rfl (fun hc => ?_) (fun hc => ?_)
  · refine G.bw cb rfl ?_
    refine G.bG [8, 9, 10] rfl ?_; refine GE.Y 0 rfl (by as_aux_lemma => kernel_rfl) rfl (bc (be rfl)) (fun _ h => by exact h.drop 1) rfl ?_; refine GE.Y 1 rfl (by as_aux_lemma => kernel_rfl) rfl (bc (bf 1 rfl rfl rfl)) (fun _ h => by exact h.drop 1) rfl ?_; refine GE.Y 2 rfl (by as_aux_lemma => kernel_rfl) rfl (bc (ba rfl)) (fun _ h => by exact h.drop 1) rfl ?_; refine GE.Y 3 rfl (by as_aux_lemma => kernel_rfl) rfl (bc (be rfl)) (fun _ h => by exact h.drop 1) rfl ?_; refine GE.Y 4 rfl (by as_aux_lemma => kernel_rfl) rfl (bc (bf 1 rfl rfl rfl)) (fun _ h => by exact h.drop 1) rfl ?_; refine GE.Y 5 rfl (by as_aux_lemma => kernel_rfl) rfl (bc (bz rfl (by exact Rd.ba 3 rfl))) (fun _ h => by exact h.drop 1) rfl ?_; refine GE.Y 7 rfl (by as_aux_lemma => kernel_rfl) rfl (bc (ba rfl)) (fun _ h => by exact h.drop 1) rfl ?_; refine GE.V 6 (by as_aux_lemma => kernel_rfl) rfl rfl (bG rfl rfl rfl (bA _ (by assumption) (by assumption)).toF) rfl (fun _ _ h => by exact h.drop 1) ?_; rintro ⟨xr, xi, xh⟩ ⟨⟨hx0, hx1⟩, hxi⟩; try dsimp only
    obtain ⟨k, rfl⟩ := Int.eq_ofNat_of_zero_le hx0; obtain ⟨t1, ht1⟩ := bn (l := t0 :: tr) (k := k) (by dsimp only at *; simp at *; omega); have hel := bt ht1 TypeM.cells
    refine GE.t 8 (by as_aux_lemma => kernel_rfl) rfl rfl rfl (bd (bg rfl rfl (by exact Rd.ba 4 rfl) rfl (by assumption))) rfl (fun _ _ => ?_); refine GE.t 9 (by as_aux_lemma => kernel_rfl) rfl rfl rfl (bd (bo rfl)) rfl (fun _ _ => ?_); refine GE.U 10 (by as_aux_lemma => kernel_rfl) rfl rfl rfl (og_stE4 rfl rfl rfl (by assumption) rfl rfl rfl rfl (.succ (.succ (.succ (.succ (.succ (.zero (.cons .nil)))))))) (fun _ _ => ?_); refine GE.E (by as_aux_lemma => kernel_rfl) ?_; refine G.bc (G.E (G.seq (G.region (G.v (bj 2 rfl rfl rfl) rfl ?_)))); refine G.bk (dP rfl rfl rfl rfl rfl (by repeat (first | rfl | refine bB (by first | rfl | assumption) ?_)) (.zero (.cons (.cons (.cons (.cons (.cons (.cons (.cons (.cons (.cons (.cons .nil)))))))))))) (fun _ _ => ?_); refine G.I (G.E (G.ret ?_))
    (refine G.bD bk2 rfl ?_); (refine G.bh cb rfl ?_); (refine G.bf pv rfl ?_); (refine G.bf tv rfl ?_); refine G.bo (((t0 :: tr).set k { t1 with g := far }).map TypeM.cells) (by rw [List.map_set]; rfl) rfl ?_; (refine G.bf iv rfl ?_); refine G.bu (((⟨_, ⟨_, _, _, _⟩, _, ps, (t0 :: tr).set k { t1 with g := far }, _, its⟩, pv, tv, iv), pv, ps.map PairM.cells), xi, xh) ⟨⟨⟨(by assumption), (by assumption), (by assumption)⟩, fun _ h => h, (by (dsimp only at *; omega)), (by (simp only [List.length_cons, List.length_append, List.length_nil, List.length_set, List.length_drop] at *; omega)), (by (dsimp only at *; omega)), (by exact htf.set ht1 rfl rfl)⟩, hxi⟩ 4 rfl rfl rfl rfl rfl (fun w hh => hh.sublist ?_); (repeat (first | exact List.Sublist.refl _ | refine List.Sublist.cons_cons _ ?_ | refine List.Sublist.cons _ ?_)); done
  refine G.seq (G.region (G.v (bQ rfl rfl) rfl (G.v (bb rfl) rfl (G.I (G.E ?_))))); refine G.bd rfl (fun hc => ?_) (fun hc => ?_)
  · refine G.region ?_
    refine G.v (ba rfl) rfl ?_; refine G.op (bq rfl (.cons rfl (.cons rfl (.cons rfl .nil))) rfl rfl rfl rfl rfl rfl) rfl (fun vl _ => ?_); refine G.op (bS rfl rfl rfl (bM (by exact Rd.ba 0 rfl) rfl rfl (by assumption) (by assumption))) rfl ?_; rintro ⟨xr, xi, xh⟩ ⟨hxm, hxi⟩; try dsimp only
    refine G.v (be rfl) rfl ?_; refine G.bk (og_st3 rfl rfl rfl rfl rfl rfl (.succ (.succ (.succ (.succ (.succ (.succ (.succ (.succ (.zero (.cons .nil))))))))))) (fun _ _ => ?_); refine G.I (G.bc (G.E (G.seq (G.region (G.v (bj 3 rfl rfl rfl) rfl ?_))))); refine G.bk (dQ rfl rfl rfl rfl rfl (by repeat (first | rfl | refine bB (by first | rfl | assumption) ?_)) (.zero (.cons (.cons (.cons (.cons (.cons (.cons (.cons (.cons (.cons (.cons .nil)))))))))))) (fun _ _ => ?_); refine G.I (G.E (G.ret ?_))
    (refine G.bz bk2 rfl ?_); (refine G.bh cb rfl ?_); (refine G.bj pv rfl ?_); (refine G.bj tv rfl ?_); (refine G.bj iv rfl ?_); refine G.bu (((⟨_, ⟨_, _, _, _⟩, _, ps, t0 :: tr, _, its⟩, pv, tv, iv), pv, ps.map PairM.cells), xi, xh) ⟨⟨⟨(by assumption), (by assumption), (by assumption)⟩, fun _ h => h, (by (dsimp only at *; omega)), (by (dsimp only at *; omega)), (by (dsimp only at *; omega)), (by exact htf)⟩, hxi⟩ 4 rfl rfl rfl rfl rfl (fun w hh => hh.sublist ?_); (repeat (first | exact List.Sublist.refl _ | refine List.Sublist.cons_cons _ ?_ | refine List.Sublist.cons _ ?_)); done
  refine G.seq (G.region (G.v (bQ rfl rfl) rfl (G.v (bb rfl) rfl (G.I (G.E ?_))))); refine G.bd rfl (fun hc => ?_) (fun hc => ?_)
  · refine G.bw cb rfl ?_
    refine G.bi iv rfl ?_; refine G.drawD2 [9, 10] rfl ?_; refine GE.Y 0 rfl (by as_aux_lemma => kernel_rfl) rfl (bc (be rfl)) (fun _ h => by exact h.drop 2) rfl ?_; refine GE.Y 1 rfl (by as_aux_lemma => kernel_rfl) rfl (bc (bf 1 rfl rfl rfl)) (fun _ h => by exact h.drop 2) rfl ?_; refine GE.Y 2 rfl (by as_aux_lemma => kernel_rfl) rfl (bc (ba rfl)) (fun _ h => by exact h.drop 2) rfl ?_; refine GE.Y 4 rfl (by as_aux_lemma => kernel_rfl) rfl (bc (ba rfl)) (fun _ h => by exact h.drop 2) rfl ?_; refine GE.V 3 (by as_aux_lemma => kernel_rfl) rfl rfl (bS rfl rfl rfl (bA _ (by assumption) (by assumption)).toF) rfl (fun _ _ h => by exact h.drop 2) ?_; rintro ⟨xa, xi, xh⟩ ⟨⟨hx0, hx1⟩, hxi⟩; try dsimp only
    refine GE.V 5 (by as_aux_lemma => kernel_rfl) rfl rfl (bG rfl rfl rfl (bA _ (by assumption) (by assumption)).toF) rfl (fun _ _ h => by exact h.drop 2) ?_; rintro ⟨xb, xi, xh⟩ ⟨⟨hy0, hy1⟩, hxi⟩; try dsimp only
    refine GE.V 6 (by as_aux_lemma => kernel_rfl) rfl rfl (bd (bJ rfl (.cons rfl (.cons rfl (.cons rfl (.cons rfl (.cons rfl (.cons rfl (.cons rfl .nil))))))) (.cons rfl rfl (.zero (.cons .nil)) (.cons rfl rfl (.succ (.zero (.cons .nil))) (.cons rfl rfl (.succ (.succ (.zero (.cons .nil)))) (.cons rfl rfl (.succ (.succ (.succ (.zero (.cons .nil))))) (.cons rfl rfl (.succ (.succ (.succ (.succ (.zero (.cons .nil)))))) (.cons rfl rfl (.succ (.succ (.succ (.succ (.succ (.zero (.cons .nil))))))) (.cons rfl rfl (.succ (.succ (.succ (.succ (.succ (.succ (.zero (.cons .nil)))))))) .nil))))))))) rfl (fun _ _ h => by exact h.drop 2) (fun _ _ => ?_); refine GE.V 7 (by as_aux_lemma => kernel_rfl) rfl rfl (bq rfl (.cons rfl .nil) rfl rfl rfl rfl rfl rfl) rfl (fun _ _ h => by exact h.drop 3) (fun vl _ => ?_); refine GE.V 8 (by as_aux_lemma => kernel_rfl) rfl rfl (cC rfl rfl rfl (by exact Rd.ba 0 rfl) rfl rfl (by (simp; omega)) (by (simp; omega))) rfl (fun _ _ h => by exact h.drop 3) (fun vi _ => ?_); refine GE.L (fun w hw => by exact (Rd.ba 2 rfl (v := vi) w hw).one_) (fun hovi => ?_); refine GE.t 9 (by as_aux_lemma => kernel_rfl) rfl rfl rfl (bd (be rfl)) rfl (fun _ _ => ?_)
    refine GE.U 10 (by as_aux_lemma => kernel_rfl) rfl rfl rfl (og_st4 rfl rfl rfl (bK (by assumption)) rfl (by repeat (first | rfl | refine bB (by assumption) ?_)) (.succ (.succ (.succ (.succ (.succ (.succ (.succ (.succ (.succ (.zero (.cons .nil)))))))))))) (fun _ _ => ?_); refine GE.E (by as_aux_lemma => kernel_rfl) ?_; refine G.bc (G.E (G.seq (G.region (G.v (bj 4 rfl rfl rfl) rfl ?_)))); refine G.bk (dQ rfl rfl rfl rfl rfl (by repeat (first | rfl | refine bB (by first | rfl | assumption) ?_)) (.zero (.cons (.cons (.cons (.cons (.cons (.cons (.cons (.cons (.cons (.cons .nil)))))))))))) (fun _ _ => ?_); refine G.I (G.E (G.ret ?_))
    (refine G.bz bk2 rfl ?_); (refine G.bx cb rfl ?_); (refine G.bj pv rfl ?_); (refine G.bj tv rfl ?_); (refine G.bB vi rfl ?_); refine G.bo ((its ++ [(⟨3, 1, 2, 3, 4, xa, xb⟩ : ItemM)]).map ItemM.cells) (by rw [List.map_append]; rfl) rfl ?_; refine G.bu (((⟨_, ⟨_, _, _, _⟩, _, ps, t0 :: tr, _, its ++ [⟨3, 1, 2, 3, 4, xa, xb⟩]⟩, pv, tv, vi), pv, ps.map PairM.cells), xi, xh) ⟨⟨⟨(by assumption), (by assumption), (by assumption)⟩, fun _ h => h, (by (dsimp only at *; omega)), (by (dsimp only at *; omega)), (by (simp only [List.length_cons, List.length_append, List.length_nil, List.length_set, List.length_drop] at *; omega)), (by exact htf)⟩, hxi⟩ 4 rfl rfl rfl rfl rfl (fun w hh => hh.sublist ?_); (repeat (first | exact List.Sublist.refl _ | refine List.Sublist.cons_cons _ ?_ | refine List.Sublist.cons _ ?_)); done
  refine G.seq (G.region (G.v (bQ rfl rfl) rfl (G.v (bb rfl) rfl (G.I (G.E ?_))))); refine G.bd rfl (fun hc => ?_) (fun hc => ?_); refine G.seq (G.region (G.v (be rfl) rfl (G.v (bf 2 rfl rfl rfl) rfl ?_))); refine G.v (bz rfl (by exact Rd.ba 3 rfl)) rfl ?_; refine G.v (b6 rfl rfl) rfl (G.I (G.E ?_)); refine G.bd rfl (fun hc => ?_) (fun hc => ?_)
  · obtain ⟨i0, ir, rfl⟩ : ∃ i0 ir, its = i0 :: ir := (by cases its with | nil => exact absurd hc (by decide) | cons a b => exact ⟨a, b, rfl⟩); have hir : ir.length ≤ 5 := Nat.le_of_succ_le_succ hil
    refine G.region (G.v (be rfl) rfl (G.v (bf 2 rfl rfl rfl) rfl (G.v (ba rfl) rfl ?_))); refine G.v (bg rfl rfl (by exact Rd.ba 3 rfl) rfl (by rfl)) rfl ?_; refine G.v (bo rfl) rfl ?_; refine G.bk (cD rfl rfl rfl (by rfl) rfl rfl rfl rfl (.succ (.succ (.succ (.zero (.cons .nil)))))) (fun _ _ => ?_); refine G.I (G.bc (G.E (G.seq (G.region (G.v (bj 2 rfl rfl rfl) rfl ?_))))); refine G.bk (dP rfl rfl rfl rfl rfl (by repeat (first | rfl | refine bB (by first | rfl | assumption) ?_)) (.zero (.cons (.cons (.cons (.cons (.cons (.cons (.cons (.cons (.cons (.cons .nil)))))))))))) (fun _ _ => ?_); refine G.I (G.E (G.ret ?_))
    (refine G.bD bk2 rfl ?_); (refine G.bh cb rfl ?_); (refine G.bf pv rfl ?_); (refine G.bf tv rfl ?_); (refine G.bf iv rfl ?_); refine G.bo (({ i0 with d := far } :: ir).map ItemM.cells) rfl rfl ?_; refine G.bu (((⟨_, ⟨_, _, _, _⟩, _, ps, t0 :: tr, _, { i0 with d := far } :: ir⟩, pv, tv, iv), pv, ps.map PairM.cells), xi, xh) ⟨⟨⟨(by assumption), (by assumption), (by assumption)⟩, fun _ h => h, (by (dsimp only at *; omega)), (by (dsimp only at *; omega)), (by (simp only [List.length_cons, List.length_append, List.length_nil, List.length_set, List.length_drop] at *; omega)), (by exact htf)⟩, hxi⟩ 4 rfl rfl rfl rfl rfl (fun w hh => hh.sublist ?_); (repeat (first | exact List.Sublist.refl _ | refine List.Sublist.cons_cons _ ?_ | refine List.Sublist.cons _ ?_)); done
  · refine G.skip ?_
    refine G.bc (G.E (G.seq (G.region (G.v (bj 2 rfl rfl rfl) rfl ?_)))); refine G.bk (dP rfl rfl rfl rfl rfl (by repeat (first | rfl | refine bB (by first | rfl | assumption) ?_)) (.zero (.cons (.cons (.cons (.cons (.cons (.cons (.cons (.cons (.cons (.cons .nil)))))))))))) (fun _ _ => ?_); refine G.I (G.E (G.ret ?_))
    (refine G.bD bk2 rfl ?_); (refine G.bh cb rfl ?_); (refine G.bf pv rfl ?_); (refine G.bf tv rfl ?_); (refine G.bf iv rfl ?_); refine G.bu (((⟨_, ⟨_, _, _, _⟩, _, ps, t0 :: tr, _, its⟩, pv, tv, iv), pv, ps.map PairM.cells), xi, xh) ⟨⟨⟨(by assumption), (by assumption), (by assumption)⟩, fun _ h => h, (by (dsimp only at *; omega)), (by (dsimp only at *; omega)), (by (dsimp only at *; omega)), (by exact htf)⟩, hxi⟩ 4 rfl rfl rfl rfl rfl (fun w hh => hh.sublist ?_); (repeat (first | exact List.Sublist.refl _ | refine List.Sublist.cons_cons _ ?_ | refine List.Sublist.cons _ ?_)); done
  refine G.seq (G.region (G.v (bQ rfl rfl) rfl (G.v (bb rfl) rfl (G.I (G.E ?_))))); refine G.bd rfl (fun hc => ?_) (fun hc => ?_); refine G.seq (G.region (G.v (be rfl) rfl (G.v (bf 2 rfl rfl rfl) rfl ?_))); refine G.v (bz rfl (by exact Rd.ba 5 rfl)) rfl ?_; refine G.v (b6 rfl rfl) rfl (G.I (G.E ?_)); refine G.bd rfl (fun hc => ?_) (fun hc => ?_)
  · have hpq : (ps.map PairM.cells).length = ps.length := List.length_map ..; have hpp : 0 < ps.length := (by omega)
    refine G.region (G.v (be rfl) rfl (G.v (bf 2 rfl rfl rfl) rfl ?_)); refine G.v (dq (l := 1) rfl rfl (by exact Rd.ba 5 rfl) (by omega)) rfl ?_; refine G.know (fun w hw => by exact (Rd.sub (l := 1) (k := (ps.map PairM.cells).length) (Rd.ba 5 rfl (v := pv) w hw) (by omega) (Nat.le_refl _)).one_) (fun hosv => ?_); refine G.v (be rfl) rfl ?_; refine G.bk (dN rfl rfl rfl (bK (by assumption)) rfl (by repeat (first | rfl | refine bB (by assumption) ?_)) (.succ (.succ (.succ (.succ (.succ (.succ (.zero (.cons .nil))))))))) (fun _ _ => ?_); refine G.I (G.bc (G.E (G.seq (G.region (G.v (bj 2 rfl rfl rfl) rfl ?_))))); refine G.bk (dP rfl rfl rfl rfl rfl (by repeat (first | rfl | refine bB (by first | rfl | assumption) ?_)) (.zero (.cons (.cons (.cons (.cons (.cons (.cons (.cons (.cons (.cons (.cons .nil)))))))))))) (fun _ _ => ?_); refine G.I (G.E (G.ret ?_))
    (refine G.bD bk2 rfl ?_); (refine G.bh cb rfl ?_); (refine G.bf pv rfl ?_); (refine G.bf tv rfl ?_); (refine G.bf iv rfl ?_); refine G.bu (((⟨_, ⟨_, _, _, _⟩, _, ps.drop 1, t0 :: tr, _, its⟩, subV pv 2 1 (ps.map PairM.cells).length, tv, iv), pv, ps.map PairM.cells), xi, xh) ⟨⟨⟨(by assumption), (by assumption), (by assumption)⟩, fun _ h => Rd.subL h (by omega), (by (simp only [List.length_cons, List.length_append, List.length_nil, List.length_set, List.length_drop] at *; omega)), (by (dsimp only at *; omega)), (by (dsimp only at *; omega)), (by exact htf)⟩, hxi⟩ 4 rfl rfl rfl rfl rfl (fun w hh => hh.sublist ?_); (repeat (first | exact List.Sublist.refl _ | refine List.Sublist.cons_cons _ ?_ | refine List.Sublist.cons _ ?_)); done
  · refine G.skip ?_
    refine G.bc (G.E (G.seq (G.region (G.v (bj 2 rfl rfl rfl) rfl ?_)))); refine G.bk (dP rfl rfl rfl rfl rfl (by repeat (first | rfl | refine bB (by first | rfl | assumption) ?_)) (.zero (.cons (.cons (.cons (.cons (.cons (.cons (.cons (.cons (.cons (.cons .nil)))))))))))) (fun _ _ => ?_); refine G.I (G.E (G.ret ?_))
    (refine G.bD bk2 rfl ?_); (refine G.bh cb rfl ?_); (refine G.bf pv rfl ?_); (refine G.bf tv rfl ?_); (refine G.bf iv rfl ?_); refine G.bu (((⟨_, ⟨_, _, _, _⟩, _, ps, t0 :: tr, _, its⟩, pv, tv, iv), pv, ps.map PairM.cells), xi, xh) ⟨⟨⟨(by assumption), (by assumption), (by assumption)⟩, fun _ h => h, (by (dsimp only at *; omega)), (by (dsimp only at *; omega)), (by (dsimp only at *; omega)), (by exact htf)⟩, hxi⟩ 4 rfl rfl rfl rfl rfl (fun w hh => hh.sublist ?_); (repeat (first | exact List.Sublist.refl _ | refine List.Sublist.cons_cons _ ?_ | refine List.Sublist.cons _ ?_)); done
  refine G.seq (G.region (G.v (bQ rfl rfl) rfl (G.v (bb rfl) rfl (G.I (G.E ?_))))); refine G.bd rfl (fun hc => ?_) (fun hc => ?_)
  · refine G.bp tv rfl ?_
    refine G.bG [8, 9] rfl ?_; refine GE.Y 0 rfl (by as_aux_lemma => kernel_rfl) rfl (bc (be rfl)) (fun _ h => by exact h.drop 1) rfl ?_; refine GE.Y 1 rfl (by as_aux_lemma => kernel_rfl) rfl (bc (bf 2 rfl rfl rfl)) (fun _ h => by exact h.drop 1) rfl ?_; refine GE.V 2 (by as_aux_lemma => kernel_rfl) rfl rfl (bd (be rfl)) rfl (fun _ _ h => by exact h.drop 1) (fun _ _ => ?_); refine GE.V 3 (by as_aux_lemma => kernel_rfl) rfl rfl (bd (bf 3 rfl rfl rfl)) rfl (fun _ _ h => by exact h.drop 1) (fun _ _ => ?_); refine GE.V 4 (by as_aux_lemma => kernel_rfl) rfl rfl (bd (bg rfl rfl (by exact Rd.ba 0 rfl) rfl (by rfl))) rfl (fun _ _ h => by exact h.drop 1) (fun _ _ => ?_); refine GE.V 5 (by as_aux_lemma => kernel_rfl) rfl rfl (bd (bN rfl (by exact Rd.ba 0 rfl) (by rfl) rfl)) rfl (fun _ _ h => by exact h.drop 1) (fun _ _ => ?_); refine GE.V 6 (by as_aux_lemma => kernel_rfl) rfl rfl (bq rfl (.cons rfl .nil) rfl rfl rfl rfl rfl rfl) rfl (fun _ _ h => by exact h.drop 2) (fun vl _ => ?_); refine GE.V 7 (by as_aux_lemma => kernel_rfl) rfl rfl (bU rfl rfl rfl (by exact Rd.ba 0 rfl) rfl rfl (by (simp; omega)) (by (simp; omega))) rfl (fun _ _ h => by exact h.drop 2) (fun vt _ => ?_); refine GE.L (fun w hw => by exact (Rd.ba 1 rfl (v := vt) w hw).one_) (fun hovt => ?_); refine GE.t 8 (by as_aux_lemma => kernel_rfl) rfl rfl rfl (bd (be rfl)) rfl (fun _ _ => ?_)
    refine GE.U 9 (by as_aux_lemma => kernel_rfl) rfl rfl rfl (og_st4 rfl rfl rfl (bK (by assumption)) rfl (by repeat (first | rfl | refine bB (by assumption) ?_)) (.succ (.succ (.succ (.succ (.succ (.succ (.succ (.zero (.cons .nil)))))))))) (fun _ _ => ?_); refine GE.E (by as_aux_lemma => kernel_rfl) ?_; refine G.bc (G.E (G.seq (G.region (G.v (bj 4 rfl rfl rfl) rfl ?_)))); refine G.bk (dQ rfl rfl rfl rfl rfl (by repeat (first | rfl | refine bB (by first | rfl | assumption) ?_)) (.zero (.cons (.cons (.cons (.cons (.cons (.cons (.cons (.cons (.cons (.cons .nil)))))))))))) (fun _ _ => ?_); refine G.I (G.E (G.ret ?_))
    (refine G.bz bk2 rfl ?_); (refine G.bH cb rfl ?_); (refine G.bj pv rfl ?_); (refine G.bp vt rfl ?_); refine G.bo (((t0 :: tr) ++ [t0]).map TypeM.cells) (by rw [List.map_append]; rfl) rfl ?_; (refine G.bj iv rfl ?_); refine G.bu (((⟨_, ⟨_, _, _, _⟩, _, ps, (t0 :: tr) ++ [t0], _, its⟩, pv, vt, iv), pv, ps.map PairM.cells), xi, xh) ⟨⟨⟨(by assumption), (by assumption), (by assumption)⟩, fun _ h => h, (by (dsimp only at *; omega)), (by (simp only [List.length_cons, List.length_append, List.length_nil, List.length_set, List.length_drop] at *; omega)), (by (dsimp only at *; omega)), (by exact htf.dbl)⟩, hxi⟩ 4 rfl rfl rfl rfl rfl (fun w hh => hh.sublist ?_); (repeat (first | exact List.Sublist.refl _ | refine List.Sublist.cons_cons _ ?_ | refine List.Sublist.cons _ ?_)); done
  refine G.seq (G.region (G.v (bQ rfl rfl) rfl (G.v (bb rfl) rfl (G.I (G.E ?_))))); refine G.bd rfl (fun hc => ?_) (fun hc => ?_)
  · refine G.region ?_
    refine G.v (be rfl) rfl ?_; refine G.bk (dN rfl rfl rfl (bK (by rfl)) rfl (by repeat (rfl)) (.succ (.succ (.succ (.succ (.succ (.succ (.succ (.zero (.cons .nil)))))))))) (fun _ _ => ?_); refine G.I (G.bc (G.E (G.seq (G.region (G.v (bj 2 rfl rfl rfl) rfl ?_))))); refine G.bk (dP rfl rfl rfl rfl rfl (by repeat (first | rfl | refine bB (by first | rfl | assumption) ?_)) (.zero (.cons (.cons (.cons (.cons (.cons (.cons (.cons (.cons (.cons (.cons .nil)))))))))))) (fun _ _ => ?_); refine G.I (G.E (G.ret ?_))
    (refine G.bD bk2 rfl ?_); (refine G.bh cb rfl ?_); (refine G.bf pv rfl ?_); refine G.heap (fun w hh => hh.nilRow 56 7) ?_; (refine G.bf iv rfl ?_); refine G.bu (((⟨_, ⟨_, _, _, _⟩, _, ps, [], _, its⟩, pv, .slice none 0 0, iv), pv, ps.map PairM.cells), xi, xh) ⟨⟨⟨(by assumption), (by rfl), (by assumption)⟩, fun _ h => h, (by (dsimp only at *; omega)), (by exact Nat.zero_le _), (by (dsimp only at *; omega)), (by exact TyFar.nil)⟩, hxi⟩ 4 rfl rfl rfl rfl rfl (fun w hh => hh.sublist ?_); (repeat (first | exact List.Sublist.refl _ | refine List.Sublist.cons_cons _ ?_ | refine List.Sublist.cons _ ?_)); done
  · refine G.skip ?_
    refine G.bc (G.E (G.seq (G.region (G.v (bj 2 rfl rfl rfl) rfl ?_)))); refine G.bk (dP rfl rfl rfl rfl rfl (by repeat (first | rfl | refine bB (by first | rfl | assumption) ?_)) (.zero (.cons (.cons (.cons (.cons (.cons (.cons (.cons (.cons (.cons (.cons .nil)))))))))))) (fun _ _ => ?_); refine G.I (G.E (G.ret ?_))
    (refine G.bD bk2 rfl ?_); (refine G.bh cb rfl ?_); (refine G.bf pv rfl ?_); (refine G.bf tv rfl ?_); (refine G.bf iv rfl ?_); refine G.bu (((⟨_, ⟨_, _, _, _⟩, _, ps, t0 :: tr, _, its⟩, pv, tv, iv), pv, ps.map PairM.cells), xi, xh) ⟨⟨⟨(by assumption), (by assumption), (by assumption)⟩, fun _ h => h, (by (dsimp only at *; omega)), (by (dsimp only at *; omega)), (by (dsimp only at *; omega)), (by exact htf)⟩, hxi⟩ 4 rfl rfl rfl rfl rfl (fun w hh => hh.sublist ?_); (repeat (first | exact List.Sublist.refl _ | refine List.Sublist.cons_cons _ ?_ | refine List.Sublist.cons _ ?_)); done
end Go.Proofs.YtglpgohilfoecaaGreat

/-
  An order of which nothing is wrong, as the draws hand it out.
-/
namespace Go.Proofs.YtglpgohilfoecaaGreat
open Go.RowKit
theorem one_eqD {a a' : Ch} {F : List Ch} (h1 : a = a') : a :: F = [a'] ++ F := by subst h1; rfl
theorem G.keep1D {n : Nat} {w0 : World} {fr : Fr} {H : List Ch} (m : Nat) {c1 : Ch} {J : List Ch} {K : Act → World → Prop} (hH : H = c1 :: J) (h : G n w0 fr (c1 :: J.drop m) K) : G n w0 fr H K := by
  subst hH
  exact G.heap (fun w hh => hh.sublist (List.Sublist.cons_cons _ (List.drop_sublist _ _))) h
attribute [local irreducible] Go.wpList Go.Code.wp Go.Exit.then Go.Exit.inBlock Go.bodyPost Go.Calls pE pB G RunsV FnV Fn FnM
set_option maxRecDepth 100000
set_option maxHeartbeats 4000000
theorem l5Good_any {w0 : World} {v : Value} {l : List Int} {cb i : Nat} {h : Int} (hv : Rd w0 v 1 (l.map bcell)) (hi : i ≤ l.length) :
    FnM Tryz.prog 125 [pB cb 0] w0 [.blk cb 182 [v, .int .i64 i, .int .i64 h]] (fun x : (ReqM × Value × Value × Value) × Nat × Int => ((x.1.2.1.oneCell' = true ∧ x.1.2.2.1.oneCell' = true ∧ x.1.2.2.2.oneCell' = true) ∧ x.1.1.pairs.length ≤ 32 ∧ 1 ≤ x.1.1.types.length ∧ x.1.1.types.length ≤ 8 ∧ x.1.1.items.length ≤ 6 ∧ TyFar x.1.1.types) ∧ x.2.1 ≤ l.length)
      (fun x => .agg (x.1.1.cells x.1.2.1 x.1.2.2.1 x.1.2.2.2).toArray) (fun x => [.row x.1.2.2.2 111 7 (x.1.1.items.map ItemM.cells), .row x.1.2.2.1 56 7 (x.1.1.types.map TypeM.cells), .row x.1.2.1 138 2 (x.1.1.pairs.map PairM.cells), .blk cb 182 [v, .int .i64 x.2.1, .int .i64 x.2.2]]) := by
  refine FnM.of (n := 46) Tryz.func125 rfl rfl (fun F => ?_); refine G.seq (G.region ?_); refine G.op (bu) rfl (fun bk2 _ => ?_); refine G.I (G.E (G.seq (G.region (G.v (ba rfl) rfl ?_))))
  (refine G.bh cb rfl ?_); refine G.op (og_callN0 rfl rfl rfl (l2Right_any (by assumption) (by assumption)).toF) rfl ?_; rintro ⟨⟨r, pv, tv, iv⟩, xi, xh⟩ ⟨⟨⟨hopv, hotv, hoiv⟩, hpl, htl1, htl, hil, htf⟩, hxi⟩; try dsimp only
  obtain ⟨wy, ⟨pw, pd, ph, pg⟩, cl, ps, ty, ms, its⟩ := r; try dsimp only at hpl htl1 htl hil
  replace hxi : xi ≤ l.length := hxi
  refine G.op (bu) rfl (fun bk3 _ => ?_); refine G.bk (bL rfl rfl rfl rfl rfl (by repeat (first | rfl | refine bB (by first | rfl | assumption) ?_)) (.zero (.cons (.cons (.cons (.cons (.cons (.cons (.cons (.cons (.cons (.cons .nil)))))))))))) (fun _ _ => ?_); refine G.I (G.E (G.seq (G.seq (G.region (G.v (bj 0 rfl rfl rfl) rfl ?_))))); refine G.op (bh rfl rfl (fun w hh => cJ (r := ⟨wy, ⟨pw, pd, ph, pg⟩, cl, ps, ty, ms, its⟩) w (by exact Rd.ba 3 rfl _ hh) (by exact Rd.ba 2 rfl _ hh) (by exact Rd.ba 1 rfl _ hh))) rfl (fun _ _ => ?_); refine G.v (dk rfl rfl) rfl (G.I (G.E ?_)); refine G.bd rfl (fun hc => ?_) (fun hc => ?_); refine G.seq (G.region ?_); refine G.v (bJ rfl (.cons rfl (.cons rfl (.cons rfl (.cons rfl .nil)))) (.cons rfl rfl (.zero (.cons .nil)) (.cons rfl rfl (.succ (.zero (.cons .nil))) (.cons rfl rfl (.succ (.succ (.zero (.cons .nil)))) (.cons rfl rfl (.succ (.succ (.succ (.zero (.cons .nil))))) .nil))))) rfl ?_; refine G.v (be rfl) rfl ?_; refine G.bk (bL rfl rfl rfl rfl rfl rfl (.succ (.zero (.cons (.cons (.cons (.cons .nil))))))) (fun _ _ => ?_); refine G.I (G.E (G.seq (G.region (G.v (bj 0 rfl rfl rfl) rfl ?_))))
  refine G.op (bh rfl rfl (fun w hh => cX (r := ⟨wy, ⟨30, 25, 24, 400⟩, cl, ps, ty, ms, its⟩) w (by exact Rd.ba 2 rfl _ hh))) rfl (fun _ _ => ?_); refine G.v (ba rfl) rfl (G.v (bC rfl rfl) rfl (G.v (bC rfl rfl) rfl ?_)); refine G.op (bu) rfl (fun bk4 _ => ?_); refine G.bk (bL rfl rfl rfl rfl rfl rfl (.zero (.cons (.cons (.cons (.cons (.cons (.cons (.cons .nil))))))))) (fun _ _ => ?_); refine G.v (bb rfl) rfl (G.I (G.E (G.seq (G.region ?_)))); refine G.op (bq rfl .nil rfl rfl rfl rfl rfl rfl) rfl (fun kv _ => ?_); refine G.know (fun w hw => (Rd.ba 0 rfl (v := kv) w hw).one_) (fun hokv => ?_); refine G.v (bb rfl) rfl (G.I (G.E (G.seq (G.seq (G.region (G.v (bb rfl) rfl (G.I (G.E (G.block ?_))))))))); refine G.bb kv rfl ?_; refine G.Y (ι := Nat × Value × List ItemM) (ks := [2, 3, 4]) (fun x => [(6, x.2.1), (7, .int .i64 (x.1 : Int))]) (fun x => [.row x.2.1 111 7 (x.2.2.map ItemM.cells)]) (fun x => (x.1 ≤ its.length ∧ x.2.2.length ≤ x.1) ∧ x.2.1.oneCell' = true) (fun x => its.length - x.1) (0, kv, []) (.cons rfl (.cons rfl (.cons rfl (.nil)))) rfl ?_ ?_ ?_
  exact ⟨⟨Nat.zero_le _, Nat.le_refl _⟩, hokv⟩
  exact ⟨rfl, rfl, trivial⟩
  rintro ⟨k, kv2, ks⟩ ⟨⟨hk, hkl⟩, hokv2⟩
  dsimp only at hk hkl hokv2 ⊢
  have hil3 : (its.map ItemM.cells).length = its.length := List.length_map ..
  have hks3 : (ks.map ItemM.cells).length = ks.length := List.length_map ..
  refine G.seq (G.seq (G.region (G.v (ba rfl) rfl (G.v (be rfl) rfl (G.v (bf 2 rfl rfl rfl) rfl ?_))))); refine G.v (bz rfl (by exact Rd.ba 3 rfl)) rfl ?_; refine G.v (br rfl rfl) rfl (G.I (G.E ?_)); refine G.bd rfl (fun hc => ?_) (fun hc => ?_)
  obtain ⟨x0, hx0⟩ := bn (l := its) (k := k) (by omega); have hel := bt hx0 ItemM.cells; have hklt : k < its.length := (by omega)
  refine G.skip (G.E (G.seq (G.block (G.seq ?_)))); refine G.ba [] ?_; refine GE.q 0 rfl (by as_aux_lemma => kernel_rfl) rfl (bc (be rfl)) rfl ?_; refine GE.q 1 rfl (by as_aux_lemma => kernel_rfl) rfl (bc (bf 2 rfl rfl rfl)) rfl ?_; refine GE.q 2 rfl (by as_aux_lemma => kernel_rfl) rfl (bc (ba rfl)) rfl ?_; refine GE.q 3 rfl (by as_aux_lemma => kernel_rfl) rfl (bc (bg rfl rfl (by exact Rd.ba 3 rfl) rfl (by assumption))) rfl ?_; refine GE.q 4 rfl (by as_aux_lemma => kernel_rfl) rfl (bc (bN rfl (by exact Rd.ba 3 rfl) (by assumption) rfl)) rfl ?_; refine GE.V 5 (by as_aux_lemma => kernel_rfl) rfl rfl (bd (bj 1 rfl rfl rfl)) rfl (fun _ _ h => by exact h) (fun _ _ => ?_); refine GE.V 6 (by as_aux_lemma => kernel_rfl) rfl rfl (bh rfl rfl (fun w _ => sfits_any x0 _ w)) rfl (fun _ _ h => by exact h) (fun _ _ => ?_); refine GE.E (by as_aux_lemma => kernel_rfl) ?_; refine G.E ?_; refine G.cond rfl (fun hc => ?_) (fun hc => ?_); refine G.region (G.v (ba rfl) rfl (G.v (be rfl) rfl (G.v (bf 2 rfl rfl rfl) rfl (G.v (ba rfl) rfl ?_)))); refine G.v (bg rfl rfl (by exact Rd.ba 3 rfl) rfl (by assumption)) rfl ?_; refine G.v (bN rfl (by exact Rd.ba 3 rfl) (by assumption) rfl) rfl ?_; refine G.op (bq rfl (.cons rfl .nil) rfl rfl rfl rfl rfl rfl) rfl (fun vx _ => ?_)
  refine G.op (bU rfl rfl rfl (by exact Rd.ba 0 rfl) rfl rfl (by (simp; omega)) (by (simp; omega))) rfl (fun kv3 _ => ?_); refine G.know (fun w hw => by exact (Rd.ba 1 rfl (v := kv3) w hw).one_) (fun hokv3 => ?_); refine G.v (bb rfl) rfl (G.I (G.bc (G.E (G.region (G.v (ba rfl) rfl ?_))))); refine G.v (bp rfl rfl (by omega)) rfl ?_; refine G.v (bb rfl) rfl (G.I ?_); refine G.bm kv3 rfl ?_; refine G.keep1D 1 rfl ?_; refine G.V (k + 1, kv3, ks ++ [x0]) 0 (by (exact one_eqD (congrArg (fun z => Ch.row kv3 111 7 z) (by rw [List.map_append]; rfl)))) (.cons rfl (.cons rfl (.cons rfl (.nil)))) ?_ ?_ ?_
  exact ⟨rfl, rfl, trivial⟩
  exact ⟨⟨by dsimp only; omega, by dsimp only; (try simp only [List.length_append, List.length_cons, List.length_nil]); omega⟩, by assumption⟩
  dsimp only; omega
  refine G.skip (G.bc (G.E (G.region (G.v (ba rfl) rfl ?_)))); refine G.v (bp rfl rfl (by omega)) rfl ?_; refine G.v (bb rfl) rfl (G.I ?_); refine G.bb kv2 rfl ?_; refine G.keep1D 0 rfl ?_; refine G.V (k + 1, kv2, ks) 0 (by exact one_eqD rfl) (.cons rfl (.cons rfl (.cons rfl (.nil)))) ?_ ?_ ?_
  exact ⟨rfl, rfl, trivial⟩
  exact ⟨⟨by dsimp only; omega, by dsimp only; (try simp only [List.length_append, List.length_cons, List.length_nil]); omega⟩, by assumption⟩
  dsimp only; omega
  · refine G.exit ?_
    refine G.L (G.L (G.bn (G.E (G.region (G.v (ba rfl) rfl (G.v (be rfl) rfl ?_)))))); refine G.bk (dN rfl rfl rfl (bK (by assumption)) rfl (by repeat (first | rfl | refine bB (by assumption) ?_)) (.succ (.succ (.succ (.succ (.succ (.succ (.succ (.succ (.succ (.zero (.cons .nil)))))))))))) (fun _ _ => ?_); refine G.I (G.E (G.seq (G.region (G.v (bj 2 rfl rfl rfl) rfl ?_)))); refine G.bk (dQ rfl rfl rfl rfl rfl (by repeat (first | rfl | refine bB (by first | rfl | assumption) ?_)) (.zero (.cons (.cons (.cons (.cons (.cons (.cons (.cons (.cons (.cons (.cons .nil)))))))))))) (fun _ _ => ?_); refine G.I (G.E (G.ret ?_))
    (refine G.bz bk2 rfl ?_); (refine G.bz cb rfl ?_); (refine G.bj pv rfl ?_); (refine G.bj tv rfl ?_); (refine G.bp kv2 rfl ?_); refine G.bu ((⟨_, ⟨_, _, _, _⟩, _, ps, ty, _, ks⟩, pv, tv, kv2), xi, xh) ⟨⟨⟨hopv, hotv, hokv2⟩, hpl, htl1, htl, by dsimp only; omega, htf⟩, hxi⟩ 4 rfl rfl rfl rfl rfl (fun w hh => hh.sublist ?_); (repeat (first | exact List.Sublist.refl _ | refine List.Sublist.cons_cons _ ?_ | refine List.Sublist.cons _ ?_)); done
  · refine G.skip ?_
    refine G.E (G.seq (G.region (G.v (bj 0 rfl rfl rfl) rfl ?_))); refine G.bk (dO rfl rfl rfl rfl rfl (by repeat (first | rfl | refine bB (by first | rfl | assumption) ?_)) (.zero (.cons (.cons (.cons (.cons (.cons (.cons (.cons (.cons (.cons (.cons .nil)))))))))))) (fun _ _ => ?_); refine G.I (G.E (G.ret ?_))
    (refine G.frontB5 bk2 rfl ?_); (refine G.frontB5 cb rfl ?_); (refine G.bB pv rfl ?_); (refine G.bB tv rfl ?_); (refine G.bB iv rfl ?_); refine G.bu ((⟨_, ⟨_, _, _, _⟩, _, ps, ty, _, its⟩, pv, tv, iv), xi, xh) ⟨⟨⟨hopv, hotv, hoiv⟩, hpl, htl1, htl, hil, htf⟩, hxi⟩ 4 rfl rfl rfl rfl rfl (fun w hh => hh.sublist ?_); (repeat (first | exact List.Sublist.refl _ | refine List.Sublist.cons_cons _ ?_ | refine List.Sublist.cons _ ?_)); done
end Go.Proofs.YtglpgohilfoecaaGreat

/-
  Orders and units, as the draws hand them out.
-/
namespace Go.Proofs.YtglpgohilfoecaaGreat
open Go.RowKit
theorem og_callF4 {P : Program} {n : Nat} {w0 : World} {fr : Fr} {H : List Ch} {f : FuncId} [hF : FnOk P f] {fo : Operand} {xs : List Operand} {vs caps : List Value} {ts : Array TypeId} {X : Type} {φ : X → Prop} {rv : X → Value} {o1 o2 o3 o4 : X → Ch} (hf : opv fr fo = some (.func (.func f) #[] caps.toArray)) (hx : opvs fr xs = some vs) (hc : ∀ w, HeapOk w0 w H → Fn P f (vs ++ caps) w φ rv (fun x => [o1 x, o2 x, o3 x, o4 x])) :
    OpG P n w0 fr H (.call ⟨.value fo, xs.toArray, ts⟩) φ rv (fun x => o1 x :: o2 x :: o3 x :: o4 x :: H) := dv hf hx hc
/-- What is known of a drawn order: its parts lie in rows; the pairs may be read past a row's front. -/
def DrawnOk (x : (ReqM × Value × Value × Value) × Value × List (List Value)) : Prop :=
  (x.1.2.1.oneCell' = true ∧ x.1.2.2.1.oneCell' = true ∧ x.1.2.2.2.oneCell' = true) ∧ (∀ w, Rd w x.2.1 2 x.2.2 → Rd w x.1.2.1 2 (x.1.1.pairs.map PairM.cells)) ∧ x.1.1.pairs.length ≤ 33 ∧ x.1.1.types.length ≤ 9 ∧ x.1.1.items.length ≤ 7 ∧ TyFar x.1.1.types
attribute [local irreducible] Go.wpList Go.Code.wp Go.Exit.then Go.Exit.inBlock Go.bodyPost Go.Calls pE pB G RunsV FnV Fn FnM
set_option maxRecDepth 100000
set_option maxHeartbeats 4000000
theorem drawClass_any {v : Value} {l : List Int} (w : World) (hv : Rd w v 1 (l.map bcell)) : Fn Tryz.prog 69 [v] w (fun x : (ReqM × Value × Value × Value) × Value × List (List Value) => DrawnOk x)
    (fun x => .agg (x.1.1.cells x.1.2.1 x.1.2.2.1 x.1.2.2.2).toArray) (fun x => [.row x.1.2.2.2 111 7 (x.1.1.items.map ItemM.cells), .row x.1.2.2.1 56 7 (x.1.1.types.map TypeM.cells), .row x.2.1 138 2 x.2.2]) := by
  refine Fn.of (n := 12) Tryz.func69 rfl rfl ?_; refine G.seq (G.region ?_); refine G.op (bu) rfl (fun bk2 _ => ?_); refine G.I (G.E (G.seq (G.region (G.v (ba rfl) rfl ?_)))); refine G.op (bH rfl rfl (fun w hh => l1New_any w (by exact Rd.stays (by assumption) _ hh))) rfl ?_; rintro ⟨cb, ch⟩ _; try dsimp only
  have h0 : (0 : Nat) ≤ l.length := Nat.zero_le _
  refine G.v (bb rfl) rfl (G.I (G.E (G.seq (G.seq (G.region (G.v (ba rfl) rfl ?_)))))); refine G.op (bG rfl rfl rfl (l1Once_any _ (by assumption) (by assumption)).toF) rfl ?_; rintro ⟨xr, xi, xh⟩ hxi; try dsimp only
  refine G.I (G.E ?_); refine G.cond rfl (fun hc => ?_) (fun hc => ?_)
  · refine G.seq ?_
    refine G.region (G.v (ba rfl) rfl ?_)
    (refine G.bw cb rfl ?_); refine G.op (og_callN0 rfl rfl rfl (l5Good_any (by assumption) (by assumption)).toF) rfl ?_; rintro ⟨⟨r, pv, tv, iv⟩, xi, xh⟩ ⟨⟨⟨hopv, hotv, hoiv⟩, hpl, htl1, htl, hil, htf⟩, hxi⟩; try dsimp only
    refine G.bk (og_st4 rfl rfl rfl rfl rfl (by repeat (first | rfl | refine bB (by first | rfl | assumption) ?_)) (.zero (.cons (.cons (.cons (.cons (.cons (.cons (.cons (.cons (.cons (.cons .nil)))))))))))) (fun _ _ => ?_); refine G.I (G.E (G.ret (G.O ?_)))
    (refine G.frontB4 bk2 rfl ?_); (refine G.bi pv rfl ?_); (refine G.bi tv rfl ?_); (refine G.bi iv rfl ?_); refine G.bu ((r, pv, tv, iv), pv, r.pairs.map PairM.cells) ⟨⟨hopv, hotv, hoiv⟩, fun _ h => h, Nat.le_trans hpl (by decide), Nat.le_trans htl (by decide), Nat.le_trans hil (by decide), htf⟩ 3 rfl rfl rfl rfl rfl (fun w hh => hh.sublist ?_); (repeat (first | exact List.Sublist.refl _ | refine List.Sublist.cons_cons _ ?_ | refine List.Sublist.cons _ ?_)); done
  · refine G.skip ?_
    refine G.E (G.seq (G.region (G.v (ba rfl) rfl ?_)))
    (refine G.bw cb rfl ?_); refine G.op (og_callN0 rfl rfl rfl (l2Draw_any (by assumption) (by assumption)).toF) rfl ?_; rintro ⟨⟨⟨r, pv, tv, iv⟩, pv0, es0⟩, xi, xh⟩ ⟨⟨⟨hopv, hotv, hoiv⟩, hrd, hpl, htl, hil, htf⟩, hxi⟩; try dsimp only
    refine G.bk (og_st4 rfl rfl rfl rfl rfl (by repeat (first | rfl | refine bB (by first | rfl | assumption) ?_)) (.zero (.cons (.cons (.cons (.cons (.cons (.cons (.cons (.cons (.cons (.cons .nil)))))))))))) (fun _ _ => ?_); refine G.I (G.E (G.ret ?_))
    (refine G.frontB4 bk2 rfl ?_); (refine G.bi pv0 rfl ?_); (refine G.bi tv rfl ?_); (refine G.bi iv rfl ?_); refine G.bu ((r, pv, tv, iv), pv0, es0) ⟨⟨hopv, hotv, hoiv⟩, hrd, hpl, htl, hil, htf⟩ 3 rfl rfl rfl rfl rfl (fun w hh => hh.sublist ?_); (repeat (first | exact List.Sublist.refl _ | refine List.Sublist.cons_cons _ ?_ | refine List.Sublist.cons _ ?_)); done
end Go.Proofs.YtglpgohilfoecaaGreat

/-
  Orders, as more draws hand them out.
-/
namespace Go.Proofs.YtglpgohilfoecaaGreat
open Go.RowKit
attribute [local irreducible] Go.wpList Go.Code.wp Go.Exit.then Go.Exit.inBlock Go.bodyPost Go.Calls pE pB G RunsV FnV Fn FnM
set_option maxRecDepth 100000
set_option maxHeartbeats 4000000
end Go.Proofs.YtglpgohilfoecaaGreat

/-
  An order and cartons of it, as the draws hand them out.
-/
namespace Go.Proofs.YtglpgohilfoecaaGreat
open Go.RowKit
theorem og_callF5 {P : Program} {n : Nat} {w0 : World} {fr : Fr} {H : List Ch} {f : FuncId} [hF : FnOk P f] {fo : Operand} {xs : List Operand} {vs caps : List Value} {ts : Array TypeId} {X : Type} {φ : X → Prop} {rv : X → Value} {o1 o2 o3 o4 o5 : X → Ch} (hf : opv fr fo = some (.func (.func f) #[] caps.toArray)) (hx : opvs fr xs = some vs) (hc : ∀ w, HeapOk w0 w H → Fn P f (vs ++ caps) w φ rv (fun x => [o1 x, o2 x, o3 x, o4 x, o5 x])) :
    OpG P n w0 fr H (.call ⟨.value fo, xs.toArray, ts⟩) φ rv (fun x => o1 x :: o2 x :: o3 x :: o4 x :: o5 x :: H) := dv hf hx hc
attribute [local irreducible] Go.wpList Go.Code.wp Go.Exit.then Go.Exit.inBlock Go.bodyPost Go.Calls pE pB G RunsV FnV Fn FnM
set_option maxRecDepth 100000
set_option maxHeartbeats 4000000
theorem l9List_any {v : Value} {l : List Int} (w : World) (hv : Rd w v 1 (l.map bcell)) : Fn Tryz.prog 82 [v] w (fun x : ((ReqM × Value × Value × Value) × Value × List (List Value)) × Value × List (CartonM × Value) => DrawnOk x.1 ∧ x.2.1.oneCell' = true ∧ x.2.2.length ≤ 200 ∧ ∀ c ∈ x.2.2, c.1.l.length ≤ 48)
    (fun x => .tuple #[.agg (x.1.1.1.cells x.1.1.2.1 x.1.1.2.2.1 x.1.1.2.2.2).toArray, x.2.1]) (fun x => [.grp 3 1 (x.2.2.map (sub CartonM.l)), .row x.2.1 54 3 (x.2.2.map CartonM.cells), .row x.1.1.2.2.2 111 7 (x.1.1.1.items.map ItemM.cells), .row x.1.1.2.2.1 56 7 (x.1.1.1.types.map TypeM.cells), .row x.1.2.1 138 2 x.1.2.2]) := by
  refine Fn.of (n := 28) Tryz.func82 rfl rfl ?_; refine G.seq (G.region ?_); refine G.op (bu) rfl (fun bk2 _ => ?_); refine G.v (bb rfl) rfl (G.I (G.E (G.seq (G.region (G.v (ba rfl) rfl ?_))))); refine G.op (og_callF3 rfl rfl (fun w hh => drawClass_any w (by exact Rd.stays (by assumption) _ hh))) rfl ?_; rintro ⟨⟨r, pv, tv, iv⟩, pv0, es0⟩ hdr; try dsimp only
  have hopv := hdr.1.1; have hotv := hdr.1.2.1; have hoiv := hdr.1.2.2; dsimp only at hopv hotv hoiv
  refine G.op (bu) rfl (fun bk4 _ => ?_); refine G.bk (bL rfl rfl rfl rfl rfl (by repeat (first | rfl | refine bB (by first | rfl | assumption) ?_)) (.zero (.cons (.cons (.cons (.cons (.cons (.cons (.cons (.cons (.cons (.cons .nil)))))))))))) (fun _ _ => ?_); refine G.I (G.E (G.seq (G.region (G.v (ba rfl) rfl ?_)))); refine G.op (bH rfl rfl (fun w hh => l1New_any w (by exact Rd.stays (by assumption) _ hh))) rfl ?_; rintro ⟨cb, ch⟩ _; try dsimp only
  have h0 : (0 : Nat) ≤ l.length := Nat.zero_le _
  refine G.v (bb rfl) rfl (G.I (G.E (G.seq (G.region (G.v (bj 1 rfl rfl rfl) rfl ?_))))); refine G.op (bX rfl rfl (fun w hh => scartonsOf_any (r := r) w (hdr.2.1 _ (by exact Rd.ba 4 rfl _ hh)) (by exact Rd.ba 3 rfl _ hh) (by exact Rd.ba 2 rfl _ hh))) rfl ?_; rintro ⟨cv, cs⟩ ⟨hcv, hcs⟩; try dsimp only
  have hcl : cs.length ≤ 192 := (by have e : cs.length = (cartonsM r).length := (by rw [← show cs.map Prod.fst = cartonsM r from hcs, List.length_map]); have h2 := cartons_len r (groupsOfM r).length; have h3 := groups_len4 r; rw [← cartonsM] at h2; omega)
  have hcl2 : (cs.map CartonM.cells).length = cs.length := List.length_map ..
  have h48 : ∀ c ∈ cs, c.1.l.length ≤ 48 := (fun c hc => cartons_elt (by rw [← show cs.map Prod.fst = cartonsM r from hcs]; exact List.mem_map_of_mem hc))
  refine G.v (bb rfl) rfl (G.I (G.E (G.seq (G.seq (G.region (G.v (ba rfl) rfl ?_)))))); refine G.op (dm rfl rfl rfl (l1Once_any _ (by assumption) (by assumption)).toF) rfl ?_; rintro ⟨xr, xi, xh⟩ hxi; try dsimp only
  refine G.I (G.E ?_); refine G.cond rfl (fun hc => ?_) (fun hc => ?_)
  · refine G.region ?_
    refine G.v (ba rfl) rfl (G.v (ba rfl) rfl ?_); refine G.op (bq rfl (.cons rfl (.cons rfl (.cons rfl .nil))) rfl rfl rfl rfl rfl rfl) rfl (fun vl _ => ?_); refine G.op (bS rfl rfl rfl (bM (by exact Rd.ba 0 rfl) rfl rfl (by assumption) (by assumption))) rfl ?_; rintro ⟨zt, xi, xh⟩ ⟨hzm, hxi⟩; try dsimp only
    refine G.v (ba rfl) rfl ?_; refine G.op (bG rfl rfl rfl (bA _ (by assumption) (by assumption)).toF) rfl ?_; rintro ⟨xb, xi, xh⟩ ⟨⟨hy0, hy1⟩, hxi⟩; try dsimp only
    refine G.v (b8 rfl rfl (by omega) (by omega)) rfl ?_; refine G.op (bq rfl (.cons rfl .nil) rfl rfl rfl rfl rfl rfl) rfl (fun vx _ => ?_); refine G.know (fun w hw => by exact (Rd.ba 0 rfl (v := vx) w hw).one_) (fun hovx => ?_); refine G.v (bJ rfl (.cons rfl (.cons (bK (by assumption)) .nil)) (.cons rfl rfl (.zero (.cons .nil)) (.cons rfl rfl (.succ (.succ (.zero (.cons .nil)))) .nil))) rfl ?_; refine G.op (bq rfl (.cons rfl .nil) (by (simp only [List.all_cons, List.all_nil, Bool.and_true, Bool.and_eq_true]; refine ⟨rfl, ?_⟩; (repeat (first | assumption | refine ⟨rfl, ?_⟩)))) rfl rfl rfl rfl rfl) rfl (fun vy _ => ?_); refine G.op (og_app5 rfl rfl rfl (by exact Rd.ba 0 rfl) rfl rfl (by (simp; omega)) (by (simp; omega))) rfl (fun va _ => ?_); refine G.know (fun w hw => by exact (Rd.ba 5 rfl (v := va) w hw).one_) (fun hova => ?_); refine G.frontG4 _ rfl ?_; refine G.be vx rfl ?_; refine G.bF ((cs ++ [((⟨zt, 0, [xb - 1]⟩ : CartonM), vx)]).map (sub CartonM.l)) (by rw [List.map_append]; rfl) rfl ?_; refine G.bp va rfl ?_; refine G.bo ((cs ++ [((⟨zt, 0, [xb - 1]⟩ : CartonM), vx)]).map CartonM.cells) (by rw [List.map_append]; rfl) rfl ?_
    have hcl9 : (cs ++ [((⟨zt, 0, [xb - 1]⟩ : CartonM), vx)]).length ≤ 200 := (by rw [List.length_append, List.length_singleton]; omega)
    have h489 : ∀ c ∈ cs ++ [((⟨zt, 0, [xb - 1]⟩ : CartonM), vx)], c.1.l.length ≤ 48 := (fun c hc => by rcases List.mem_append.1 hc with hc | hc; exact h48 c hc; rw [List.mem_singleton.1 hc]; exact (by decide : 1 ≤ 48))
    generalize cs ++ [((⟨zt, 0, [xb - 1]⟩ : CartonM), vx)] = c9 at hcl9 h489 ⊢
    refine G.v (bb rfl) rfl (G.I (G.E (G.seq (G.region (G.v (bj 5 rfl rfl rfl) rfl (G.v (ba rfl) rfl ?_)))))); refine G.bk (og_st9 rfl rfl rfl rfl rfl (by repeat (first | rfl | refine bB (by first | rfl | assumption) ?_)) (.zero (.cons (.cons (.cons (.cons (.cons (.cons (.cons (.cons (.cons (.cons .nil)))))))))))) (fun _ _ => ?_); refine G.v (bb rfl) rfl (G.I (G.E (G.ret ?_)))
    (refine G.frontB9 bk2 rfl ?_); (refine G.frontR9 pv0 rfl ?_); (refine G.frontR9 tv rfl ?_); (refine G.frontR9 iv rfl ?_); (refine G.bp va rfl ?_); (refine G.frontG5 _ rfl ?_); refine G.retL (((r, pv, tv, iv), pv0, es0), va, c9) ⟨hdr, hova, hcl9, h489⟩ rfl (.cons (.cell 5 rfl rfl rfl) (.cons (.tmp rfl) .nil)) rfl (fun w hh => hh.sublist ?_); (repeat (first | exact List.Sublist.refl _ | refine List.Sublist.cons_cons _ ?_ | refine List.Sublist.cons _ ?_)); done
  · refine G.skip ?_
    refine G.E (G.seq (G.region (G.v (bj 3 rfl rfl rfl) rfl (G.v (ba rfl) rfl ?_)))); refine G.bk (dQ rfl rfl rfl rfl rfl (by repeat (first | rfl | refine bB (by first | rfl | assumption) ?_)) (.zero (.cons (.cons (.cons (.cons (.cons (.cons (.cons (.cons (.cons (.cons .nil)))))))))))) (fun _ _ => ?_); refine G.v (bb rfl) rfl (G.I (G.E (G.ret ?_)))
    (refine G.bz bk2 rfl ?_); (refine G.bj pv0 rfl ?_); (refine G.bj tv rfl ?_); (refine G.bj iv rfl ?_); (refine G.bf cv rfl ?_); (refine G.frontG6 _ rfl ?_); refine G.retL (((r, pv, tv, iv), pv0, es0), cv, cs) ⟨hdr, hcv, Nat.le_trans hcl (by decide), h48⟩ rfl (.cons (.cell 5 rfl rfl rfl) (.cons (.tmp rfl) .nil)) rfl (fun w hh => hh.sublist ?_); (repeat (first | exact List.Sublist.refl _ | refine List.Sublist.cons_cons _ ?_ | refine List.Sublist.cons _ ?_)); done
theorem dDrawGross_any {v : Value} {l : List Int} (w : World) (hv : Rd w v 1 (l.map bcell)) : Fn Tryz.prog 89 [v] w (fun x : ((ReqM × Value × Value × Value) × Value × List (List Value)) × CartonM × Value => DrawnOk x.1 ∧ x.2.2.oneCell' = true ∧ x.2.1.l.length ≤ 48)
    (fun x => .tuple #[.agg (x.1.1.1.cells x.1.1.2.1 x.1.1.2.2.1 x.1.1.2.2.2).toArray, .agg (CartonM.cells x.2).toArray]) (fun x => [.row x.2.2 3 1 (x.2.1.l.map icell), .row x.1.1.2.2.2 111 7 (x.1.1.1.items.map ItemM.cells), .row x.1.1.2.2.1 56 7 (x.1.1.1.types.map TypeM.cells), .row x.1.2.1 138 2 x.1.2.2]) := by
  refine Fn.of (n := 24) Tryz.func89 rfl rfl ?_; refine G.seq (G.region ?_); refine G.op (bu) rfl (fun bk2 _ => ?_); refine G.op (bu) rfl (fun bk3 _ => ?_); refine G.I (G.E (G.seq (G.region (G.v (ba rfl) rfl ?_)))); refine G.op (og_callF5 rfl rfl (fun w hh => l9List_any w (by exact Rd.stays (by assumption) _ hh))) rfl ?_; rintro ⟨⟨⟨r, pv, tv, iv⟩, pv0, es0⟩, cv, cs⟩ ⟨hdr, hocv, hcl, h48⟩; try dsimp only
  have hopv := hdr.1.1; have hotv := hdr.1.2.1; have hoiv := hdr.1.2.2; dsimp only at hopv hotv hoiv hcl h48
  refine G.know (p := ∀ c ∈ cs, c.2.oneCell' = true) (fun w hw c hc => ((Rd.ba 1 rfl (v := cv) w hw).good _ (List.mem_map_of_mem hc)).2 c.2 (by simp [CartonM.cells])) (fun hovc => ?_); refine G.v (ba rfl) rfl (G.v (bC rfl rfl) rfl (G.v (bC rfl rfl) rfl ?_)); refine G.op (bu) rfl (fun bk4 _ => ?_); refine G.bk (bL rfl rfl rfl rfl rfl (by repeat (first | rfl | refine bB (by first | rfl | assumption) ?_)) (.zero (.cons (.cons (.cons (.cons (.cons (.cons (.cons (.cons (.cons (.cons .nil)))))))))))) (fun _ _ => ?_); refine G.v (bb rfl) rfl (G.I (G.E (G.seq (G.seq (G.region (G.v (ba rfl) rfl ?_)))))); refine G.v (bz rfl (by exact Rd.ba 2 rfl)) rfl ?_; refine G.v (bQ rfl rfl) rfl (G.I (G.E ?_)); refine G.bd rfl (fun hc => ?_) (fun hc => ?_)
  · simp only [List.length_map] at hc
    refine G.seq (G.region (G.v (bj 0 rfl rfl rfl) rfl ?_)); refine G.op (bq rfl (.cons rfl .nil) rfl rfl rfl rfl rfl rfl) rfl (fun vx _ => ?_); refine G.know (fun w hw => by exact (Rd.ba 0 rfl (v := vx) w hw).one_) (fun hovx => ?_); refine G.v (bJ rfl (.cons rfl (.cons (bK (by assumption)) .nil)) (.cons rfl rfl (.zero (.cons .nil)) (.cons rfl rfl (.succ (.succ (.zero (.cons .nil)))) .nil))) rfl ?_; refine G.bk (og_st8 rfl rfl rfl rfl rfl (by repeat (first | rfl | refine bB (by first | rfl | assumption) ?_)) (.zero (.cons (.cons (.cons (.cons (.cons (.cons (.cons (.cons (.cons (.cons .nil)))))))))))) (fun _ _ => ?_); refine G.bk (dQ rfl rfl rfl rfl rfl (by repeat (first | rfl | refine bB (by first | rfl | assumption) ?_)) (.zero (.cons (.cons (.cons .nil))))) (fun _ _ => ?_); refine G.I (G.E (G.ret (G.O ?_)))
    (refine G.bz bk3 rfl ?_); (refine G.frontB8 bk2 rfl ?_); (refine G.frontR8 pv0 rfl ?_); (refine G.frontR8 tv rfl ?_); (refine G.frontR8 iv rfl ?_); (refine G.bB vx rfl ?_); refine G.retL (((r, pv, tv, iv), pv0, es0), (⟨7, 0, [0]⟩ : CartonM), vx) ⟨hdr, hovx, (by decide : 1 ≤ 48)⟩ rfl (.cons (.cell 4 rfl rfl rfl) (.cons (.cell 5 rfl rfl rfl) .nil)) rfl (fun w hh => hh.sublist ?_); (repeat (first | exact List.Sublist.refl _ | refine List.Sublist.cons_cons _ ?_ | refine List.Sublist.cons _ ?_)); done
  · simp only [List.length_map] at hc
    obtain ⟨b, hb⟩ := bn (l := cs) (k := cs.length - 1) (by omega); have he := bt hb CartonM.cells; have hgi : (cs.map (sub CartonM.l))[cs.length - 1]? = some (b.2, b.1.l.map icell) := cn hb; have hov := hovc b (List.mem_of_getElem? hb); have hbl := h48 b (List.mem_of_getElem? hb)
    have hcl2 : (cs.map CartonM.cells).length = cs.length := List.length_map ..
    refine G.skip (G.E (G.seq ?_)); refine G.bz bk2 rfl ?_; refine G.bG [8] rfl ?_; refine GE.Y 0 rfl (by as_aux_lemma => kernel_rfl) rfl (bc (bj 0 rfl rfl rfl)) (fun _ h => by exact h.drop 1) rfl ?_; refine GE.Y 1 rfl (by as_aux_lemma => kernel_rfl) rfl (bc (ba rfl)) (fun _ h => by exact h.drop 1) rfl ?_; refine GE.Y 2 rfl (by as_aux_lemma => kernel_rfl) rfl (bc (ba rfl)) (fun _ h => by exact h.drop 1) rfl ?_; refine GE.Y 3 rfl (by as_aux_lemma => kernel_rfl) rfl (bc (bz rfl (by exact Rd.ba 2 rfl))) (fun _ h => by exact h.drop 1) rfl ?_; refine GE.Y 4 rfl (by as_aux_lemma => kernel_rfl) rfl (bc (b8 rfl rfl (by omega) (by omega))) (fun _ h => by exact h.drop 1) rfl ?_; refine GE.Y 5 rfl (by as_aux_lemma => kernel_rfl) rfl (bc (bg (k := cs.length - 1) rfl rfl (by exact Rd.ba 2 rfl) (by omega) he)) (fun _ h => by exact h.drop 1) rfl ?_; refine GE.Y 6 rfl (by as_aux_lemma => kernel_rfl) rfl (bc (bN rfl (by exact Rd.ba 2 rfl) (by exact he) rfl)) (fun _ h => by exact h.drop 1) rfl ?_; refine GE.ol0 7 (by as_aux_lemma => kernel_rfl) rfl rfl (bL rfl rfl rfl rfl rfl (by repeat (first | rfl | refine bB (by first | rfl | assumption) ?_)) (.zero (.cons (.cons (.cons (.cons (.cons (.cons (.cons (.cons (.cons (.cons .nil)))))))))))) (fun _ _ h => by exact h.drop 1) (fun _ _ => ?_)
    refine GE.U 8 (by as_aux_lemma => kernel_rfl) rfl rfl rfl (dQ rfl rfl rfl rfl rfl (by repeat (first | rfl | refine bB (by first | rfl | assumption) ?_)) (.zero (.cons (.cons (.cons .nil))))) (fun _ _ => ?_); refine GE.E (by as_aux_lemma => kernel_rfl) ?_; refine G.E (G.ret ?_)
    (refine G.bz bk3 rfl ?_); (refine G.bh bk2 rfl ?_); (refine G.bj pv0 rfl ?_); (refine G.bj tv rfl ?_); (refine G.bj iv rfl ?_); (refine G.frontG6 _ rfl ?_); refine G.heap (fun w hh => hh.focus hgi) ?_; refine G.retL (((r, pv, tv, iv), pv0, es0), b.1, b.2) ⟨hdr, hov, hbl⟩ rfl (.cons (.cell 5 rfl rfl rfl) (.cons (.cell 6 rfl rfl rfl) .nil)) rfl (fun w hh => hh.sublist ?_); refine List.Sublist.cons_cons _ (List.Sublist.cons _ ?_); (repeat (first | exact List.Sublist.refl _ | refine List.Sublist.cons_cons _ ?_ | refine List.Sublist.cons _ ?_)); done
theorem dDrawBoxOf_any {v : Value} {l : List Int} (w : World) (hv : Rd w v 1 (l.map bcell)) : Fn Tryz.prog 33 [v] w (fun x : ((ReqM × Value × Value × Value) × Value × List (List Value)) × CartonM × Value => DrawnOk x.1 ∧ x.2.2.oneCell' = true ∧ x.2.1.l.length ≤ 48)
    (fun x => .tuple #[.agg (x.1.1.1.cells x.1.1.2.1 x.1.1.2.2.1 x.1.1.2.2.2).toArray, .agg (CartonM.cells x.2).toArray]) (fun x => [.row x.2.2 3 1 (x.2.1.l.map icell), .row x.1.1.2.2.2 111 7 (x.1.1.1.items.map ItemM.cells), .row x.1.1.2.2.1 56 7 (x.1.1.1.types.map TypeM.cells), .row x.1.2.1 138 2 x.1.2.2]) := by
  refine Fn.of (n := 8) Tryz.func33 rfl rfl ?_; refine G.seq (G.region ?_); refine G.op (bu) rfl (fun bk2 _ => ?_); refine G.op (bu) rfl (fun bk3 _ => ?_); refine G.I (G.E (G.seq (G.region (G.v (ba rfl) rfl ?_)))); refine G.op (og_callF4 rfl rfl (fun w hh => dDrawGross_any w (by exact Rd.stays (by assumption) _ hh))) rfl ?_; rintro ⟨⟨⟨r, pv, tv, iv⟩, pv0, es0⟩, b⟩ ⟨hdr, hob, hbl⟩; try dsimp only
  have hopv := hdr.1.1; have hotv := hdr.1.2.1; have hoiv := hdr.1.2.2; dsimp only at hopv hotv hoiv
  have hov : b.2.oneCell' = true := hob
  refine G.v (bC rfl rfl) rfl (G.v (bC rfl rfl) rfl ?_); refine G.bk (dO rfl rfl rfl rfl rfl (by repeat (first | rfl | refine bB (by first | rfl | assumption) ?_)) (.zero (.cons (.cons (.cons (.cons (.cons (.cons (.cons (.cons (.cons (.cons .nil)))))))))))) (fun _ _ => ?_); refine G.bk (og_st4 rfl rfl rfl rfl rfl (by repeat (first | rfl | refine bB (by first | rfl | assumption) ?_)) (.zero (.cons (.cons (.cons .nil))))) (fun _ _ => ?_); refine G.I (G.E (G.ret ?_))
  (refine G.frontB4 bk3 rfl ?_); (refine G.frontB5 bk2 rfl ?_); (refine G.bB pv0 rfl ?_); (refine G.bB tv rfl ?_); (refine G.bB iv rfl ?_); (refine G.bB b.2 rfl ?_); refine G.retL (((r, pv, tv, iv), pv0, es0), b.1, b.2) ⟨hdr, hob, hbl⟩ rfl (.cons (.cell 4 rfl rfl rfl) (.cons (.cell 5 rfl rfl rfl) .nil)) rfl (fun w hh => hh.sublist ?_); (repeat (first | exact List.Sublist.refl _ | refine List.Sublist.cons_cons _ ?_ | refine List.Sublist.cons _ ?_)); done
end Go.Proofs.YtglpgohilfoecaaGreat

/-
  The law of the cartons.
-/
namespace Go.Proofs.YtglpgohilfoecaaGreat
open Go.RowKit
theorem cart_class {r : ReqM} {x : CartonM} (hx : x ∈ cartonsM r) : classM r = 0 := by
  by_cases h : classM r = 0
  · exact h
  · rw [cartonsM, groupsOf_no h] at hx
    exact absurd hx List.not_mem_nil
theorem cart_elt48 {r : ReqM} {x : CartonM} (hx : x ∈ cartonsM r) : x.l.length ≤ 48 := by
  obtain ⟨k, l, _, rfl, hl, _⟩ := cart_mem (cart_class hx) hx
  show (sortM l).length ≤ 48
  rw [cB]
  obtain ⟨i, hi, rfl⟩ := List.getElem_of_mem hl
  have := wayM_elt (List.getElem?_eq_getElem hi)
  have := cM r k
  omega
theorem cartons_lenQ (r : ReqM) : (cartonsM r).length ≤ 192 := by
  have h2 := cartons_len r (groupsOfM r).length
  have h3 := groups_len4 r
  rw [cartonsM]; omega
attribute [local irreducible] Go.wpList Go.Code.wp Go.Exit.then Go.Exit.inBlock Go.bodyPost Go.Calls pE pB G RunsV FnV Fn FnM
set_option maxRecDepth 100000
set_option maxHeartbeats 4000000
end Go.Proofs.YtglpgohilfoecaaGreat

/-
  The law of the pallets needed.
-/
namespace Go.Proofs.YtglpgohilfoecaaGreat
open Go.RowKit
/-- What lies on the first pallets. -/
def onFirst (r : ReqM) (k : Nat) : Int := ((List.range k).map fun q : Nat => palletGramM r (cartonsM r) (planSpotsM r) (q : Int)).sum
attribute [local irreducible] Go.wpList Go.Code.wp Go.Exit.then Go.Exit.inBlock Go.bodyPost Go.Calls pE pB G RunsV FnV Fn FnM
set_option maxRecDepth 100000
set_option maxHeartbeats 4000000
end Go.Proofs.YtglpgohilfoecaaGreat

/-
  The law of the costs.
-/
namespace Go.Proofs.YtglpgohilfoecaaGreat
open Go.RowKit
def tareAt (r : ReqM) (c : CartonM) : Int := (typeAt r c.t).1.tare
attribute [local irreducible] Go.wpList Go.Code.wp Go.Exit.then Go.Exit.inBlock Go.bodyPost Go.Calls pE pB G RunsV FnV Fn FnM
set_option maxRecDepth 100000
set_option maxHeartbeats 4000000
end Go.Proofs.YtglpgohilfoecaaGreat

/-
  The law of the boxes.
-/
namespace Go.Proofs.YtglpgohilfoecaaGreat
open Go.RowKit
theorem boxes_next {r : ReqM} {cs : List (CartonM × Value)} {i : Nat} {b : CartonM × Value} (hb : cs[i]? = some b) : (((cs.map Prod.fst).take i).map (boxOfM r)).map BoxM.cells ++ [(boxOfM r b.1).cells] = (((cs.map Prod.fst).take (i + 1)).map (boxOfM r)).map BoxM.cells := by
  rw [List.take_add_one, List.getElem?_map, hb, List.map_append, List.map_append]; rfl
theorem boxes_ok {r : ReqM} (hc : classM r = 0) : boxesOkM r.pal ((cartonsM r).map (boxOfM r)) = true := by
  rw [boxesOkM, pal_of hc, Bool.true_and, List.all_eq_true]
  intro b hb
  obtain ⟨x, hx, rfl⟩ := List.mem_map.1 hb
  exact (cart_box hc hx).1
theorem box_none {r : ReqM} {x : CartonM} (h : ¬ ((typeAt r x.t).2 = true ∧ classM r = 0)) : boxOfM r x = ⟨0, 0, 0, 0⟩ := by rw [boxOfM, if_neg h]
theorem box_some {r : ReqM} {x : CartonM} (h : (typeAt r x.t).2 = true) (hc : classM r = 0) : (boxOfM r x).w = (typeAt r x.t).1.w ∧ (boxOfM r x).d = (typeAt r x.t).1.d ∧ (boxOfM r x).h = (typeAt r x.t).1.h ∧ (boxOfM r x).g = grossM r x := by
  rw [boxOfM, if_pos ⟨h, hc⟩]; exact ⟨rfl, rfl, rfl, rfl⟩
attribute [local irreducible] Go.wpList Go.Code.wp Go.Exit.then Go.Exit.inBlock Go.bodyPost Go.Calls pE pB G RunsV FnV Fn FnM
set_option maxRecDepth 100000
set_option maxHeartbeats 4000000
theorem fnBoxes_any {v : Value} {l : List Int} {w : World} (h : Rd w v 1 (l.map bcell)) : FnV Tryz.prog 6 [v] w (.bool true) := by
  refine FnV.of (n := 104) Tryz.func6 rfl rfl ?_; refine G.seq (G.region (G.v (bb rfl) rfl (G.I (G.E (G.seq (G.seq (G.region (G.v (ba rfl) rfl ?_)))))))); refine G.op (bh rfl rfl (fun w hh => big_any w (by exact Rd.stays (by assumption) _ hh))) rfl (fun _ _ => ?_); refine G.I (G.E ?_); refine G.bd rfl (fun hc => ?_) (fun hc => ?_); refine G.seq (G.region (G.v (bb rfl) rfl (G.I (G.E (G.ret (G.O ?_))))))
  exact G.U rfl rfl rfl
  refine G.skip (G.E (G.seq (G.region (G.v (ba rfl) rfl ?_)))); refine G.op (og_callF4 rfl rfl (fun w hh => dDrawBoxOf_any w (by exact Rd.stays (by assumption) _ hh))) rfl ?_; rintro ⟨⟨⟨r, pv, tv, iv⟩, pv0, es0⟩, x⟩ ⟨hdr, hox, hxl⟩; try dsimp only
  refine G.v (ba rfl) rfl ?_
  have hopv := hdr.1.1; have hotv := hdr.1.2.1; have hoiv := hdr.1.2.2; dsimp only at hopv hotv hoiv hxl; have hov : x.2.oneCell' = true := hox
  refine G.v (bC rfl rfl) rfl (G.v (bC rfl rfl) rfl ?_); refine G.op (bu) rfl (fun bk3 _ => ?_); refine G.op (bu) rfl (fun bk4 _ => ?_); refine G.bk (cf rfl rfl rfl rfl rfl (by repeat (first | rfl | refine bB (by first | rfl | assumption) ?_)) (.zero (.cons (.cons (.cons (.cons (.cons (.cons (.cons (.cons (.cons (.cons .nil)))))))))))) (fun _ _ => ?_); refine G.bk (bL rfl rfl rfl rfl rfl (by repeat (first | rfl | refine bB (by first | rfl | assumption) ?_)) (.zero (.cons (.cons (.cons .nil))))) (fun _ _ => ?_); refine G.I (G.E (G.seq (G.region (G.v (bj 1 rfl rfl rfl) rfl (G.v (bj 0 rfl rfl rfl) rfl ?_))))); refine G.op (bh rfl rfl (fun w hh => boxOf_any (r := r) x w (hdr.2.1 _ (by exact Rd.ba 5 rfl _ hh)) (by exact Rd.ba 4 rfl _ hh) (by exact Rd.ba 3 rfl _ hh) (by exact Rd.ba 2 rfl _ hh) (by omega))) rfl (fun _ _ => ?_); refine G.op (bu) rfl (fun bk5 _ => ?_); refine G.bk (bL rfl rfl rfl rfl rfl rfl (.zero (.cons (.cons (.cons (.cons .nil)))))) (fun _ _ => ?_); refine G.I (G.E (G.seq (G.seq ?_))); refine G.ba [] ?_; refine GE.q 0 rfl (by as_aux_lemma => kernel_rfl) rfl (bc (bj 0 rfl rfl rfl)) rfl ?_; refine GE.q 1 rfl (by as_aux_lemma => kernel_rfl) rfl (bc (bj 2 rfl rfl rfl)) rfl ?_
  refine GE.V 2 (by as_aux_lemma => kernel_rfl) rfl rfl (bd (bj 1 rfl rfl rfl)) rfl (fun _ _ h => by exact h) (fun _ _ => ?_); refine GE.V 3 (by as_aux_lemma => kernel_rfl) rfl rfl (bh rfl rfl (fun w hh => sboxOf_any (r := r) x w (hdr.2.1 _ (by exact Rd.ba 6 rfl _ hh)) (by exact Rd.ba 5 rfl _ hh) (by exact Rd.ba 4 rfl _ hh) (by exact Rd.ba 3 rfl _ hh) (by omega))) rfl (fun _ _ h => by exact h) (fun _ _ => ?_); refine GE.V 4 (by as_aux_lemma => kernel_rfl) rfl rfl (bd (rv_neqBox (a := boxOfM r x.1) (b := boxOfM r x.1) rfl rfl)) rfl (fun _ _ h => by exact h) (fun _ _ => ?_); refine GE.E (by as_aux_lemma => kernel_rfl) ?_; refine G.E ?_; refine G.bd rfl (fun hc => ?_) (fun hc => ?_)
  exfalso; contradiction
  · refine G.skip ?_
    refine G.E (G.seq (G.region (G.v (bj 2 rfl rfl rfl) rfl ?_))); refine G.op (bX rfl rfl (fun w hh => cartonsOf_any (r := r) w (hdr.2.1 _ (by exact Rd.ba 6 rfl _ hh)) (by exact Rd.ba 5 rfl _ hh) (by exact Rd.ba 4 rfl _ hh))) rfl ?_; rintro ⟨cv, cs⟩ ⟨hcv, hcs⟩; try dsimp only
    have hcl : (cs.map CartonM.cells).length = (cartonsM r).length := (by rw [List.length_map, ← show cs.map Prod.fst = cartonsM r from hcs, List.length_map]); have hcl2 : (cs.map CartonM.cells).length = cs.length := List.length_map ..; have hcl3 := cartons_lenQ r
    have hmem : ∀ c ∈ cs, c.1 ∈ cartonsM r := (fun c hc => by rw [← show cs.map Prod.fst = cartonsM r from hcs]; exact List.mem_map_of_mem hc)
    have h48 : ∀ c ∈ cs, c.1.l.length ≤ 48 := (fun c hc => cart_elt48 (hmem c hc))
    refine G.v (bb rfl) rfl (G.I (G.E (G.seq (G.region ?_)))); refine G.op (bq rfl .nil rfl rfl rfl rfl rfl rfl) rfl (fun vl _ => ?_); refine G.v (bb rfl) rfl (G.I (G.E (G.seq (G.seq (G.region (G.v (bb rfl) rfl (G.I (G.E (G.block ?_))))))))); refine G.bb vl rfl ?_; refine G.Y (ι := Nat × Value) (ks := [3, 4, 5, 6]) (fun x => [(7, x.2), (8, .int .i64 (x.1 : Int))]) (fun x => [.row x.2 71 4 ((((cs.map Prod.fst).take x.1).map (boxOfM r)).map BoxM.cells)]) (fun x => x.1 ≤ cs.length) (fun x => cs.length - x.1) (0, vl) (.cons rfl (.cons rfl (.cons rfl (.cons rfl (.nil))))) rfl ?_ ?_ ?_
    exact Nat.zero_le _
    exact ⟨rfl, rfl, trivial⟩
    rintro ⟨k, bv⟩ hk
    dsimp only at hk ⊢
    have hbl1 : (((cs.map Prod.fst).take k).map (boxOfM r)).length = k := (by rw [List.length_map, List.length_take, List.length_map]; omega)
    have hbl2 : ((((cs.map Prod.fst).take k).map (boxOfM r)).map BoxM.cells).length = k := (by rw [List.length_map]; exact hbl1)
    by_cases hlt : k < cs.length
    case' pos => (obtain ⟨b, hb⟩ := bn hlt; have he := bt hb CartonM.cells; have hbl := h48 b (List.mem_of_getElem? hb))
    case' neg => (have hall : (cs.map Prod.fst).take k = cartonsM r := (by rw [List.take_of_length_le (by rw [List.length_map]; omega)]; exact hcs); rw [hall] at hbl1 hbl2; rw [hall])
    all_goals
     refine G.seq (G.seq (G.region (G.v (ba rfl) rfl (G.v (ba rfl) rfl ?_)))); refine G.v (bz rfl (by exact Rd.ba 2 rfl)) rfl ?_; refine G.v (br rfl rfl) rfl (G.I (G.E ?_)); refine G.cond rfl (fun hc => ?_) (fun hc => ?_)
     · all_goals
        replace hc := of_decide_eq_true hc
        try (exfalso; omega)
        all_goals
         refine G.skip (G.E (G.seq (G.block ?_))); refine G.bb bv rfl ?_; refine G.bG [9] rfl ?_; refine GE.Y 0 rfl (by as_aux_lemma => kernel_rfl) rfl (bc (ba rfl)) (fun _ h => by exact h.drop 1) rfl ?_; refine GE.Y 1 rfl (by as_aux_lemma => kernel_rfl) rfl (bc (bj 4 rfl rfl rfl)) (fun _ h => by exact h.drop 1) rfl ?_; refine GE.Y 2 rfl (by as_aux_lemma => kernel_rfl) rfl (bc (ba rfl)) (fun _ h => by exact h.drop 1) rfl ?_; refine GE.V 3 (by as_aux_lemma => kernel_rfl) rfl rfl (bd (ba rfl)) rfl (fun _ _ h => by exact h.drop 1) (fun _ _ => ?_); refine GE.V 4 (by as_aux_lemma => kernel_rfl) rfl rfl (bd (bg rfl rfl (by exact Rd.ba 2 rfl) rfl (by exact he))) rfl (fun _ _ h => by exact h.drop 1) (fun _ _ => ?_); refine GE.V 5 (by as_aux_lemma => kernel_rfl) rfl rfl (bd (bN rfl (by exact Rd.ba 2 rfl) (by exact he) rfl)) rfl (fun _ _ h => by exact h.drop 1) (fun _ _ => ?_); refine GE.V 6 (by as_aux_lemma => kernel_rfl) rfl rfl (bh rfl rfl (fun w hh => boxOf_any (r := r) b w (hdr.2.1 _ (by exact Rd.ba 9 rfl _ hh)) (by exact Rd.ba 8 rfl _ hh) (by exact Rd.ba 7 rfl _ hh) (Subs.at (by exact Subs.owned 1 rfl _ hh) hb) (by omega))) rfl (fun _ _ h => by exact h.drop 1) (fun _ _ => ?_); refine GE.V 7 (by as_aux_lemma => kernel_rfl) rfl rfl (bq rfl (.cons rfl .nil) rfl rfl rfl rfl rfl rfl) rfl (fun _ _ h => by exact h.drop 2) (fun vx _ => ?_)
         refine GE.V 8 (by as_aux_lemma => kernel_rfl) rfl rfl (bU rfl rfl rfl (by exact Rd.ba 0 rfl) rfl rfl (by (simp; omega)) (by (simp; omega))) rfl (fun _ _ h => by exact h.drop 2) (fun va _ => ?_); refine GE.t 9 (by as_aux_lemma => kernel_rfl) rfl rfl rfl (bd (bb rfl)) rfl (fun _ _ => ?_); refine GE.E (by as_aux_lemma => kernel_rfl) ?_; refine G.bc (G.E (G.region (G.v (ba rfl) rfl ?_))); refine G.v (bp rfl rfl (by omega)) rfl ?_; refine G.v (bb rfl) rfl (G.I ?_); refine G.bm va rfl ?_; refine G.keep1 1 rfl ?_; refine G.V (k + 1, va) 0 (bV (congrArg (fun z => Ch.row va 71 4 z) (boxes_next hb))) (.cons rfl (.cons rfl (.cons rfl (.cons rfl (.nil))))) ?_ ?_ ?_
         exact ⟨rfl, rfl, trivial⟩
         dsimp only; omega
         dsimp only; omega
     · all_goals
        replace hc := of_decide_eq_false hc
        try (exfalso; omega)
        all_goals
         refine G.exit (G.L (G.L (G.bn (G.E (G.seq (G.region (G.v (bj 5 rfl rfl rfl) rfl (G.v (be rfl) rfl (G.v (bf 4 rfl rfl rfl) rfl ?_))))))))); refine G.op (bh rfl rfl (fun w hh => typeById_any (r := r) x.1.t w (by exact Rd.ba 8 rfl _ hh))) rfl (fun _ _ => ?_); refine G.v (ba rfl) rfl (G.v (bC rfl rfl) rfl (G.v (bC rfl rfl) rfl ?_)); refine G.op (bu) rfl (fun bk9 _ => ?_); refine G.bk (bL rfl rfl rfl rfl rfl rfl (.zero (.cons (.cons (.cons (.cons (.cons (.cons (.cons .nil))))))))) (fun _ _ => ?_); refine G.v (bb rfl) rfl (G.I (G.E (G.seq (G.seq (G.region (G.v (bj 6 rfl rfl rfl) rfl ?_)))))); refine G.op (bh rfl rfl (fun w hh => cJ (r := r) w (hdr.2.1 _ (by exact Rd.ba 10 rfl _ hh)) (by exact Rd.ba 9 rfl _ hh) (by exact Rd.ba 8 rfl _ hh))) rfl (fun _ _ => ?_); refine G.v (dk rfl rfl) rfl (G.v (ba rfl) rfl ?_)
         all_goals (((with_reducible refine G.gP rfl rfl (fun hg => ?_) (fun hg => ?_)) <;> (try exact Bool.noConfusion hg) <;> (try (exfalso; first | (rw [hbo] at hg; cases hg; done) | (have hq := of_decide_eq_false hg; omega) | (have hq := of_decide_eq_true hg; omega); done)) <;> (first | (refine G.gY rfl rfl ?_; refine G.v (ba rfl) rfl ?_) | refine G.gN rfl rfl rfl ?_)))
         all_goals ((first | (refine G.gY rfl rfl ?_; refine G.v (bF rfl) rfl ?_) | refine G.gN rfl rfl rfl ?_))
         all_goals ((first | refine G.v (bk rfl rfl) rfl ?_ | refine G.v (bm rfl rfl) rfl ?_))
         all_goals
          refine G.I (G.E ?_); refine G.cond rfl (fun hc => ?_) (fun hc => ?_)
          · all_goals
             all_goals
              have hbn : boxOfM r x.1 = ⟨0, 0, 0, 0⟩ := box_none (by clear h; intro hh2; obtain ⟨h8, h9⟩ := hh2; simp_all)
              all_goals
               refine G.seq (G.region (G.v (bj 4 rfl rfl rfl) rfl ?_)); refine G.v (bJ rfl .nil .nil) rfl ?_; refine G.v (rv_eqlBox (a := boxOfM r x.1) (b := ⟨0, 0, 0, 0⟩) rfl rfl) rfl ?_; refine G.v (bb rfl) rfl (G.I (G.E (G.ret (G.O ?_))))
               exact G.U rfl rfl (by (congr 1; exact decide_eq_true (by assumption)))
          · try exact Bool.noConfusion hc
            all_goals
             all_goals
              have hyes : classM r = 0 := (by clear h; simp_all); have hty : (typeAt r x.1.t).2 = true := (by clear h; simp_all); obtain ⟨b1, b2, b3, b4⟩ := box_some hty hyes; have hbo := boxes_ok hyes; have hsl := spots_len hbo
              all_goals
               refine G.skip (G.E (G.seq ?_)); refine G.ba [43] ?_; refine GE.q 0 rfl (by as_aux_lemma => kernel_rfl) rfl (bc (be rfl)) rfl ?_; refine GE.q 1 rfl (by as_aux_lemma => kernel_rfl) rfl (bc (bf 4 rfl rfl rfl)) rfl ?_; refine GE.V 2 (by as_aux_lemma => kernel_rfl) rfl rfl (bd (be rfl)) rfl (fun _ _ h => by exact h) (fun _ _ => ?_); refine GE.V 3 (by as_aux_lemma => kernel_rfl) rfl rfl (bd (bf 0 rfl rfl rfl)) rfl (fun _ _ h => by exact h) (fun _ _ => ?_); refine GE.V 4 (by as_aux_lemma => kernel_rfl) rfl rfl (bd (bQ rfl rfl)) rfl (fun _ _ h => by exact h) (fun _ _ => ?_); refine GE.V 5 (by as_aux_lemma => kernel_rfl) rfl rfl (bd (ba rfl)) rfl (fun _ _ h => by exact h) (fun _ _ => ?_)
               all_goals (((with_reducible refine GE.part (t := 66) rfl (fun hg => ?_) (fun hg => ?_)) <;> (try exact Bool.noConfusion hg) <;> (try (exfalso; first | (rw [hbo] at hg; cases hg; done) | (have hq := of_decide_eq_false hg; omega) | (have hq := of_decide_eq_true hg; omega); done)) <;> ((refine GE.q 6 rfl (by as_aux_lemma => kernel_rfl) rfl (bc (be rfl)) rfl ?_))))
               all_goals (((refine GE.q 7 rfl (by as_aux_lemma => kernel_rfl) rfl (bc (bf 4 rfl rfl rfl)) rfl ?_)))
               all_goals (((refine GE.q 8 rfl (by as_aux_lemma => kernel_rfl) rfl (bc (be rfl)) rfl ?_)))
               all_goals (((refine GE.q 9 rfl (by as_aux_lemma => kernel_rfl) rfl (bc (bf 0 rfl rfl rfl)) rfl ?_)))
               all_goals ((refine GE.q 10 rfl (by as_aux_lemma => kernel_rfl) rfl (bc (bQ rfl rfl)) rfl ?_))
               all_goals ((refine GE.V 11 (by as_aux_lemma => kernel_rfl) rfl rfl (bd (bk rfl rfl)) rfl (fun _ _ h => by exact h) (fun _ _ => ?_)))
               all_goals (refine GE.V 12 (by as_aux_lemma => kernel_rfl) rfl rfl (bd (ba rfl)) rfl (fun _ _ h => by exact h) (fun _ _ => ?_))
               all_goals (((with_reducible refine GE.part (t := 73) rfl (fun hg => ?_) (fun hg => ?_)) <;> (try exact Bool.noConfusion hg) <;> (try (exfalso; first | (rw [hbo] at hg; cases hg; done) | (have hq := of_decide_eq_false hg; omega) | (have hq := of_decide_eq_true hg; omega); done)) <;> ((refine GE.q 13 rfl (by as_aux_lemma => kernel_rfl) rfl (bc (be rfl)) rfl ?_))))
               all_goals (((refine GE.q 14 rfl (by as_aux_lemma => kernel_rfl) rfl (bc (bf 4 rfl rfl rfl)) rfl ?_)))
               all_goals (((refine GE.q 15 rfl (by as_aux_lemma => kernel_rfl) rfl (bc (be rfl)) rfl ?_)))
               all_goals (((refine GE.q 16 rfl (by as_aux_lemma => kernel_rfl) rfl (bc (bf 0 rfl rfl rfl)) rfl ?_)))
               all_goals ((refine GE.q 17 rfl (by as_aux_lemma => kernel_rfl) rfl (bc (bQ rfl rfl)) rfl ?_))
               all_goals ((refine GE.V 18 (by as_aux_lemma => kernel_rfl) rfl rfl (bd (bk rfl rfl)) rfl (fun _ _ h => by exact h) (fun _ _ => ?_)))
               all_goals (refine GE.V 19 (by as_aux_lemma => kernel_rfl) rfl rfl (bd (ba rfl)) rfl (fun _ _ h => by exact h) (fun _ _ => ?_))
               all_goals (((with_reducible refine GE.part (t := 80) rfl (fun hg => ?_) (fun hg => ?_)) <;> (try exact Bool.noConfusion hg) <;> (try (exfalso; first | (rw [hbo] at hg; cases hg; done) | (have hq := of_decide_eq_false hg; omega) | (have hq := of_decide_eq_true hg; omega); done)) <;> ((refine GE.q 20 rfl (by as_aux_lemma => kernel_rfl) rfl (bc (be rfl)) rfl ?_))))
               all_goals (((refine GE.q 21 rfl (by as_aux_lemma => kernel_rfl) rfl (bc (bf 4 rfl rfl rfl)) rfl ?_)))
               all_goals (((refine GE.q 22 rfl (by as_aux_lemma => kernel_rfl) rfl (bc (bj 6 rfl rfl rfl)) rfl ?_)))
               all_goals (((refine GE.q 23 rfl (by as_aux_lemma => kernel_rfl) rfl (bc (bj 5 rfl rfl rfl)) rfl ?_)))
               all_goals ((refine GE.q 24 rfl (by as_aux_lemma => kernel_rfl) rfl (cY rfl rfl (fun w hh => gross_any (r := r) x w (hdr.2.1 _ (by exact Rd.ba 10 rfl _ hh)) (by exact Rd.ba 9 rfl _ hh) (by exact Rd.ba 8 rfl _ hh) (by exact Rd.ba 7 rfl _ hh) (by omega))) rfl ?_))
               all_goals ((refine GE.q 25 rfl (by as_aux_lemma => kernel_rfl) rfl (bc (bQ rfl rfl)) rfl ?_))
               all_goals ((refine GE.V 26 (by as_aux_lemma => kernel_rfl) rfl rfl (bd (bk rfl rfl)) rfl (fun _ _ h => by exact h) (fun _ _ => ?_)))
               all_goals (refine GE.V 27 (by as_aux_lemma => kernel_rfl) rfl rfl (bd (ba rfl)) rfl (fun _ _ h => by exact h) (fun _ _ => ?_))
               all_goals (((with_reducible refine GE.part (t := 88) rfl (fun hg => ?_) (fun hg => ?_)) <;> (try exact Bool.noConfusion hg) <;> (try (exfalso; first | (rw [hbo] at hg; cases hg; done) | (have hq := of_decide_eq_false hg; omega) | (have hq := of_decide_eq_true hg; omega); done)) <;> ((refine GE.q 28 rfl (by as_aux_lemma => kernel_rfl) rfl (bc (be rfl)) rfl ?_))))
               all_goals (((refine GE.q 29 rfl (by as_aux_lemma => kernel_rfl) rfl (bc (dg 6 rfl rfl (.skip (.one (.one (.one (.one .nil))))))) rfl ?_)))
               all_goals ((refine GE.q 30 rfl (by as_aux_lemma => kernel_rfl) rfl (bc (ba rfl)) rfl ?_))
               all_goals ((refine GE.q 31 rfl (by as_aux_lemma => kernel_rfl) rfl (cY rfl rfl (fun w hh => boxesOk_any r.pal (l := (cartonsM r).map (boxOfM r)) w (by exact Rd.ba 1 rfl _ hh))) rfl ?_))
               all_goals ((refine GE.V 32 (by as_aux_lemma => kernel_rfl) rfl rfl (bd (bk rfl rfl)) rfl (fun _ _ h => by exact h) (fun _ _ => ?_)))
               all_goals (refine GE.V 33 (by as_aux_lemma => kernel_rfl) rfl rfl (bd (ba rfl)) rfl (fun _ _ h => by exact h) (fun _ _ => ?_))
               all_goals (((with_reducible refine GE.part (t := 94) rfl (fun hg => ?_) (fun hg => ?_)) <;> (try exact Bool.noConfusion hg) <;> (try (exfalso; first | (rw [hbo] at hg; cases hg; done) | (have hq := of_decide_eq_false hg; omega) | (have hq := of_decide_eq_true hg; omega); done)) <;> ((refine GE.q 34 rfl (by as_aux_lemma => kernel_rfl) rfl (bc (be rfl)) rfl ?_))))
               all_goals (((refine GE.q 35 rfl (by as_aux_lemma => kernel_rfl) rfl (bc (dg 6 rfl rfl (.skip (.one (.one (.one (.one .nil))))))) rfl ?_)))
               all_goals ((refine GE.q 36 rfl (by as_aux_lemma => kernel_rfl) rfl (bc (ba rfl)) rfl ?_))
               all_goals ((refine GE.q 39 rfl (by as_aux_lemma => kernel_rfl) rfl (bc (ba rfl)) rfl ?_))
               all_goals ((refine GE.q 40 rfl (by as_aux_lemma => kernel_rfl) rfl (bc (bz rfl (by exact Rd.ba 1 rfl))) rfl ?_))
               all_goals ((first | (refine GE.V 37 (by as_aux_lemma => kernel_rfl) rfl rfl (bH rfl rfl (fun w hh => implSpotsOf_any r.pal (l := (cartonsM r).map (boxOfM r)) w (by first | exact Rd.stays (by assumption) _ hh | exact Rd.ba 0 rfl _ hh | exact Rd.ba 1 rfl _ hh | exact Rd.ba 2 rfl _ hh | exact Rd.ba 3 rfl _ hh | exact Rd.ba 4 rfl _ hh | exact Rd.ba 5 rfl _ hh | exact Rd.ba 6 rfl _ hh | exact Rd.ba 7 rfl _ hh | exact Rd.ba 8 rfl _ hh | exact Rd.ba 9 rfl _ hh | exact Rd.ba 10 rfl _ hh | exact Rd.ba 11 rfl _ hh | exact Rd.ba 12 rfl _ hh | exact Rd.ba 13 rfl _ hh | exact Rd.ba 14 rfl _ hh | exact Rd.ba 15 rfl _ hh | exact Rd.ba 16 rfl _ hh | exact Rd.ba 17 rfl _ hh | exact Rd.ba 18 rfl _ hh | exact Rd.ba 19 rfl _ hh) (by omega))) rfl (fun _ _ h => by first | exact h | exact h.drop 1 | exact h.drop 2 | exact h.drop 3 | exact h.drop 4 | exact h.drop 5 | exact h.drop 6 | exact h.drop 7 | exact h.drop 8 | exact h.drop 9 | exact h.drop 10 | exact h.drop 11 | exact h.drop 12 | exact h.drop 13) ?_; rintro vs hvs; try dsimp only) | refine GE.O 37 rfl (by as_aux_lemma => kernel_rfl) rfl rfl ?_))
               all_goals (try (have hsl2 : ((spotsM r.pal ((cartonsM r).map (boxOfM r))).map SpotM.cells).length = (((cartonsM r).map (boxOfM r)).map BoxM.cells).length := (by rw [List.length_map, hsl, List.length_map (f := BoxM.cells)])))
               all_goals (((refine GE.V 38 (by as_aux_lemma => kernel_rfl) rfl rfl (bd (bz rfl (by exact Rd.ba 0 rfl))) rfl (fun _ _ h => by exact h.drop 1) (fun _ _ => ?_))))
               all_goals (((refine GE.Y 41 rfl (by as_aux_lemma => kernel_rfl) rfl (bc (bQ rfl rfl)) (fun _ h => by exact h.drop 1) rfl ?_)))
               all_goals ((refine GE.V 42 (by as_aux_lemma => kernel_rfl) rfl rfl (bd (bk rfl rfl)) rfl (fun _ _ h => by exact h.drop 1) (fun _ _ => ?_)))
               all_goals (refine GE.t 43 (by as_aux_lemma => kernel_rfl) rfl rfl rfl (bd (bb rfl)) rfl (fun _ _ => ?_))
               all_goals
                refine GE.E (by as_aux_lemma => kernel_rfl) ?_; refine G.E (G.ret ?_)
                exact G.U rfl rfl (by (congr 1; exact decide_eq_true (by omega)))
end Go.Proofs.YtglpgohilfoecaaGreat
