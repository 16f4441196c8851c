/-
  The program's PlanOf returns what the reference's returns, for all arguments: the call of the law returns true and turns nothing that was there.
-/
import Derived.JoinedOf
import Derived.ProofKit
import Derived.Test.YtglpgohilfoecaaGreatRows
import Derived.Test.YtglpgohilfoecaaGreatPkbH
import Derived.Test.YtglpgohilfoecaaGreatPkbC
namespace Go.Proofs.YtglpgohilfoecaaGreat
theorem pfLaid : laidOutB Tryz.prog = true := by kernel_rfl
theorem pfMaps : mapsRowed Tryz.prog = true := by kernel_rfl
theorem pfStops : (Tryz.prog.stops == []) = true := by kernel_rfl
theorem pfKnobs : (Tryz.prog.stopKnobs == []) = true := by kernel_rfl
theorem pfHeard : Tryz.prog.stopsHeard = true := by kernel_rfl
theorem pfEnter : Tryz.prog.mayEnter = true := by kernel_rfl
theorem pfLift : Tryz.prog.liftsFinal = false := by kernel_rfl
end Go.Proofs.YtglpgohilfoecaaGreat
namespace Go.Proofs.YtglpgohilfoecaaGreat
open Go.ChangeShapes Go.WideShapes Go.ChangeAt Go.RowKit
set_option linter.unusedVariables false
namespace fnExactPlanOf
theorem own : ownKnob Tryz.prog.godebug = none := by kernel_rfl
theorem laidOut : laidOutB Tryz.prog = true := by kernel_rfl
set_option maxRecDepth 100000 in
theorem lifted (os : Os) (started : os.Started) (H : Type) (enc : TypeId × Value → H) :
    ReturnsInHanded {} Tryz.checked os 3 .any (Rows.fnExactPlanOfSpec.pre6 enc Tryz.prog Tryz.f3 Rows.fnExactPlanOfRow.domain false) (Rows.fnExactPlanOfSpec.post enc Tryz.prog Tryz.f3 false true false false) := by
  refine returnsInHanded_of_change (C := Tryz.checked) own started (by kernel_rfl) Tryz.func3
    (ChangeSpec.witness6 (enc := enc) (C := Tryz.checked) false ⟨#[], #[.agg #[.int .i64 0, .int .i64 0, .int .i64 0, .int .i64 0, .int .i64 0, .int .i64 0, .slice none 0 0, .slice none 0 0, .int .i64 0, .slice none 0 0]], []⟩ 8 (by kernel_rfl) (by kernel_rfl) (by kernel_rfl) (by kernel_rfl)) ?_
  intro W base args ds gs before hval0 hW hcnd _
  have hval : ∀ (j : Nat) t v, Tryz.f3.params[j]? = some t → args[j]? = some v → Value.okWide Tryz.prog W .any base t v := hval0
  have hW' := hW
  obtain ⟨p, q, hA0, hV, rfl, hfz, hnd⟩ := hW
  have hA : DataW.TrodAll enc Tryz.prog W 0 (fun _ => true) true Tryz.f3.params.toList args.toList ds p := hA0
  rw [Tryz.params3] at hA hval
  obtain ⟨v0, vs0, d0, ds0, p0, q0, hargs, rfl, rfl, h0, r0⟩ := trodAll_cons hA
  obtain ⟨rfl, rfl, rfl⟩ := trodAll_nil r0
  obtain rfl : args = #[v0] := by cases args; simp_all
  obtain ⟨rfl, rfl⟩ := trodVars_none hV
  have k0 := h0
  have lt0 : ∀ x ∈ p0, x.block < W.heap.size := by obtain ⟨m, hm⟩ := k0; exact DataW.trod_lt m _ _ _ hm
  obtain ⟨cs0, fl0, rfl, ht0⟩ := open_val Tryz.underlying28 (hval 0 28 v0 rfl rfl) h0
  obtain ⟨way0, pa0, pb0, pc0, pd0, cl0, pv0, tv0, ms0, iv0, rfl, ⟨_, _, ha0⟩, ⟨_, _, hb0⟩, ⟨_, _, hc0⟩⟩ := flat_req (tp := 23) Tryz.underlying28 (by kernel_rfl) (by kernel_rfl) Tryz.underlying3 (by kernel_rfl) ht0
  obtain ⟨ps0, hps0⟩ := open_rd PairM.cells (s := 2) Tryz.underlying24 (by kernel_rfl) (by omega) (fun n cs y hy => by obtain ⟨a, b, rfl⟩ := flat_ints2 (by kernel_rfl) hy; exact ⟨⟨a, b⟩, rfl⟩) (fun b => ⟨rfl, by simp [PairM.cells, Value.oneCell']⟩) ha0
  obtain ⟨ty0, hty0⟩ := open_rd TypeM.cells (s := 7) Tryz.underlying25 (by kernel_rfl) (by omega) (fun n cs y hy => by obtain ⟨a, b, c, d, e, f, g, rfl⟩ := flat_ints7 (by kernel_rfl) hy; exact ⟨⟨a, b, c, d, e, f, g⟩, rfl⟩) (fun b => ⟨rfl, by simp [TypeM.cells, Value.oneCell']⟩) hb0
  obtain ⟨it0, hit0⟩ := open_rd ItemM.cells (s := 7) Tryz.underlying26 (by kernel_rfl) (by omega) (fun n cs y hy => by obtain ⟨a, b, c, d, e, f, g, rfl⟩ := flat_ints7 (by kernel_rfl) hy; exact ⟨⟨a, b, c, d, e, f, g⟩, rfl⟩) (fun b => ⟨rfl, by simp [ItemM.cells, Value.oneCell']⟩) hc0
  clear hA0 hval0
  refine Calls.mono (fnExactPlanOf_any (⟨way0, ⟨pa0, pb0, pc0, pd0⟩, cl0, ps0, ty0, ms0, it0⟩ : ReqM) (RqRd.mk hps0 hty0 hit0) (w := W)) fun e W' ⟨he, hh⟩ => ?_
  subst he
  have bel := hh.below
  exact ⟨_, rfl, _, _, _, [], _, [], hW', trodAll_mk1 (shut_bool Tryz.underlying4 _), (trodAll_cons_mk (Below.trod laidOut (by kernel_rfl) (of_decide_eq_true (by kernel_rfl)) k0 bel lt0) trodAll_mk0), rfl, bel.frame _, fun h => by cases h⟩
theorem c0 : (Rows.fnExactPlanOfRow.wf (OpenSpec.ofChange Rows.fnExactPlanOfSpec)) = true := by kernel_rfl
theorem c3 : (Tryz.f3.params.all (Tryz.prog.readableRec ·)) = true := by kernel_rfl
theorem c4 : (namedTie Tryz.prog Rows.fnExactPlanOfRow.named Rows.fnExactPlanOfSpec.vars) = true := by kernel_rfl
theorem c5 : (Rows.fnExactPlanOfRow.stops == []) = true := by kernel_rfl
theorem c7 : (Rows.fnExactPlanOfRow.knobs == []) = true := by kernel_rfl
theorem c9 : (Rows.fnExactPlanOfRow.inPlace == Tryz.prog.inPlace 3) = true := by kernel_rfl
theorem c10 : (Rows.fnExactPlanOfRow.unfollowed == Tryz.prog.unfollowed 3) = true := by kernel_rfl
theorem c11 : (Rows.fnExactPlanOfRow.recurses == Tryz.prog.recurses 3) = true := by kernel_rfl
theorem c12 : (Rows.fnExactPlanOfRow.named == Tryz.prog.varsNamed 3) = true := by kernel_rfl
theorem c13 : (Rows.fnExactPlanOfRow.maps == (Tryz.f3.params.toList ++ Rows.fnExactPlanOfSpec.plain.varTypes Tryz.prog).any (Tryz.prog.mapsRec ·)) = true := by kernel_rfl
theorem c14 : (Rows.fnExactPlanOfRow.ifaces == (Tryz.f3.params.toList ++ Rows.fnExactPlanOfSpec.plain.varTypes Tryz.prog).any (Tryz.prog.ifacesRec ·)) = true := by kernel_rfl
theorem c15 : (Rows.fnExactPlanOfRow.mapsOut == Tryz.prog.mapsAmong Tryz.f3.resultTypes.toList) = true := by kernel_rfl
theorem c16 : (Rows.fnExactPlanOfRow.loops == (Tryz.f3.params.toList ++ Rows.fnExactPlanOfSpec.plain.varTypes Tryz.prog).any (Tryz.prog.loopsFrom ·)) = true := by kernel_rfl
theorem c17 : (Rows.fnExactPlanOfRow.wideKeys == (Tryz.f3.params.toList ++ Rows.fnExactPlanOfSpec.plain.varTypes Tryz.prog ++ Tryz.f3.resultTypes.toList).any (Tryz.prog.wideKeysFrom ·)) = true := by kernel_rfl
theorem c18 : (Rows.fnExactPlanOfSpec.vars.all (Tryz.prog.varReadable ·)) = true := by kernel_rfl
theorem c19 : (Tryz.f3.resultTypes.all (fun t => Tryz.prog.readableRec t && decide (t < Tryz.prog.types.size))) = true := by kernel_rfl
theorem c20 : (Rows.fnExactPlanOfRow.ifacesOut == Tryz.f3.resultTypes.toList.any (Tryz.prog.ifacesRec ·)) = true := by kernel_rfl
theorem c21 : (Rows.fnExactPlanOfRow.loopsOut == Tryz.f3.resultTypes.toList.any (Tryz.prog.loopsFrom ·)) = true := by kernel_rfl
theorem c22 : (Rows.fnExactPlanOfRow.plainKeys == Tryz.prog.plainKeys) = true := by kernel_rfl
theorem c23 : (Rows.fnExactPlanOfRow.shortTexts.isNone) = true := by kernel_rfl
theorem c26 : (Rows.fnExactPlanOfRow.lifted == Tryz.prog.liftsFinal) = true := by rw [pfLift]; rfl
theorem c27 : (Tryz.prog.make == some Rows.fnExactPlanOfRow.make) = true := by kernel_rfl
theorem c28 : (Rows.fnExactPlanOfRow.kinds == (if Rows.fnExactPlanOfRow.domain.isEmpty then [] else Tryz.f3.params.toList.map fun t => match Tryz.prog.underlying t with | some (.int k) => some k | _ => none)) = true := by kernel_rfl
theorem c29 : (Rows.fnExactPlanOfRow.pinned == Rows.fnExactPlanOfRow.pinnedBy) = true := by kernel_rfl
theorem c30 : (Rows.fnExactPlanOfRow.veiled == (Tryz.f3.params.toList ++ Rows.fnExactPlanOfSpec.plain.varTypes Tryz.prog ++ Tryz.f3.resultTypes.toList).any (Tryz.prog.veiledRec ·)) = true := by kernel_rfl
theorem c31 : (Rows.fnExactPlanOfRow.veiledFits Tryz.prog Tryz.f3.params.toList (Tryz.f3.params.toList ++ Rows.fnExactPlanOfSpec.plain.varTypes Tryz.prog ++ Tryz.f3.resultTypes.toList)) = true := by kernel_rfl
set_option maxRecDepth 100000 in
theorem closed : joinedFacts Tryz.prog 3 Tryz.f3 Rows.fnExactPlanOfSpec Rows.fnExactPlanOfRow = true := (both (both (both (both (both (both (both (both (both (both (both (both (both (both (both (both (both (both (both (both (both (both (both (both (both (both (both (both (both (both (both c0 pfLaid) pfMaps) c3) c4) c5) pfStops) c7) pfKnobs) c9) c10) c11) c12) c13) c14) c15) c16) c17) c18) c19) c20) c21) c22) c23) pfHeard) pfEnter) c26) c27) c28) c29) c30) c31)
theorem over : Rows.fnExactPlanOfRow.holds Tryz.pinned (OpenSpec.ofChange Rows.fnExactPlanOfSpec) :=
  OpenClaim.holds_of_wide 3 Tryz.f3 rfl rfl rfl rfl rfl rfl rfl ⟨rfl, rfl, rfl, rfl, rfl⟩ rfl rfl rfl rfl rfl (by kernel_rfl) Tryz.func3 closed
    (of_decide_eq_true (by kernel_rfl)) (by unfold Func.isWrapper; first | (rw [if_pos (by decide +kernel)]; kernel_rfl) | (rw [if_neg (by decide +kernel)]; exact ⟨rfl, rfl⟩))
    (fun os started H enc _ => lifted os started H enc)
/-- The statement. -/
theorem proved : Rows.FnExactPlanOfSaid := over
end fnExactPlanOf
end Go.Proofs.YtglpgohilfoecaaGreat
