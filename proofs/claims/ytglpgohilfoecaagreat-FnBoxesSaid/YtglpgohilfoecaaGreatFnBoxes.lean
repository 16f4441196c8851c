/-
  The call of the law FnBoxes returns true, whatever it is handed, and turns nothing that was there.
-/
import Derived.Test.YtglpgohilfoecaaGreatRows
import Derived.Test.YtglpgohilfoecaaGreatPkpG
import Derived.Test.YtglpgohilfoecaaGreatPkpC
namespace Go.Proofs.YtglpgohilfoecaaGreat
open Go.ChangeShapes Go.WideShapes Go.ChangeAt Go.RowKit
set_option linter.unusedVariables false
namespace fnBoxes
theorem own : ownKnob Tryz.prog.godebug = none := by kernel_rfl
theorem laidOut : laidOutB Tryz.prog = true := by kernel_rfl
set_option maxRecDepth 100000 in
theorem lifted (os : Os) (started : os.Started) (H : Type) (enc : TypeId × Value → H) :
    ReturnsInHanded {} Tryz.checked os 6 .any (Rows.fnBoxesSpec.pre6 enc Tryz.prog Tryz.f6 Rows.fnBoxesRow.domain false) (Rows.fnBoxesSpec.post enc Tryz.prog Tryz.f6 false true false false) := by
  refine returnsInHanded_of_change (C := Tryz.checked) own started (by kernel_rfl) Tryz.func6
    (ChangeSpec.witness6 (enc := enc) (C := Tryz.checked) false ⟨#[], #[.slice none 0 0], []⟩ 8 (by kernel_rfl) (by kernel_rfl) (by kernel_rfl) (by kernel_rfl)) ?_
  intro W base args ds gs before hval0 hW hcnd _
  have hval : ∀ (j : Nat) t v, Tryz.f6.params[j]? = some t → args[j]? = some v → Value.okWide Tryz.prog W .any base t v := hval0
  have hW' := hW
  obtain ⟨p, q, hA0, hV, rfl, hfz, hnd⟩ := hW
  have hA : DataW.TrodAll enc Tryz.prog W 0 (fun _ => true) true Tryz.f6.params.toList args.toList ds p := hA0
  rw [Tryz.params6] at hA hval
  obtain ⟨v0, vs0, d0, ds0, p0, q0, hargs, rfl, rfl, h0, r0⟩ := trodAll_cons hA
  obtain ⟨rfl, rfl, rfl⟩ := trodAll_nil r0
  obtain rfl : args = #[v0] := by cases args; simp_all
  obtain ⟨rfl, rfl⟩ := trodVars_none hV
  have k0 := h0
  have lt0 : ∀ x ∈ p0, x.block < W.heap.size := by obtain ⟨m, hm⟩ := k0; exact DataW.trod_lt m _ _ _ hm
  obtain ⟨fl0, ht0⟩ := open_slv Tryz.underlying48 (hval 0 48 v0 rfl rfl) h0
  obtain ⟨x0, hx0⟩ := open_rd bcell (s := 1) Tryz.underlying48 (by kernel_rfl) (by omega) (fun n cs y hy => by obtain ⟨z, h1, _, _⟩ := DataW.trod_int Tryz.underlying5 hy; exact ⟨z, h1⟩) (fun b => ⟨rfl, by simp [bcell, Value.oneCell']⟩) ht0
  clear hA0 hval0
  refine Calls.mono (fnBoxes_any hx0 (w := W)) fun e W' ⟨he, hh⟩ => ?_
  subst he
  have bel := hh.below
  exact ⟨_, rfl, _, _, _, [], _, [], hW', trodAll_mk1 (shut_bool Tryz.underlying4 _), (trodAll_cons_mk (Below.trod laidOut (by kernel_rfl) (of_decide_eq_true (by kernel_rfl)) k0 bel lt0) trodAll_mk0), rfl, bel.frame _, fun h => by cases h⟩
theorem c0 : (Rows.fnBoxesRow.wf (OpenSpec.ofChange Rows.fnBoxesSpec)) = true := by kernel_rfl
theorem c3 : (Tryz.f6.params.all (Tryz.prog.readableRec ·)) = true := by kernel_rfl
theorem c4 : (namedTie Tryz.prog Rows.fnBoxesRow.named Rows.fnBoxesSpec.vars) = true := by kernel_rfl
theorem c5 : (Rows.fnBoxesRow.stops == []) = true := by kernel_rfl
theorem c7 : (Rows.fnBoxesRow.knobs == []) = true := by kernel_rfl
theorem c9 : (Rows.fnBoxesRow.inPlace == Tryz.prog.inPlace 6) = true := by kernel_rfl
theorem c10 : (Rows.fnBoxesRow.unfollowed == Tryz.prog.unfollowed 6) = true := by kernel_rfl
theorem c11 : (Rows.fnBoxesRow.recurses == Tryz.prog.recurses 6) = true := by kernel_rfl
theorem c12 : (Rows.fnBoxesRow.named == Tryz.prog.varsNamed 6) = true := by kernel_rfl
theorem c13 : (Rows.fnBoxesRow.maps == (Tryz.f6.params.toList ++ Rows.fnBoxesSpec.plain.varTypes Tryz.prog).any (Tryz.prog.mapsRec ·)) = true := by kernel_rfl
theorem c14 : (Rows.fnBoxesRow.ifaces == (Tryz.f6.params.toList ++ Rows.fnBoxesSpec.plain.varTypes Tryz.prog).any (Tryz.prog.ifacesRec ·)) = true := by kernel_rfl
theorem c15 : (Rows.fnBoxesRow.mapsOut == Tryz.prog.mapsAmong Tryz.f6.resultTypes.toList) = true := by kernel_rfl
theorem c16 : (Rows.fnBoxesRow.loops == (Tryz.f6.params.toList ++ Rows.fnBoxesSpec.plain.varTypes Tryz.prog).any (Tryz.prog.loopsFrom ·)) = true := by kernel_rfl
theorem c17 : (Rows.fnBoxesRow.wideKeys == (Tryz.f6.params.toList ++ Rows.fnBoxesSpec.plain.varTypes Tryz.prog ++ Tryz.f6.resultTypes.toList).any (Tryz.prog.wideKeysFrom ·)) = true := by kernel_rfl
theorem c18 : (Rows.fnBoxesSpec.vars.all (Tryz.prog.varReadable ·)) = true := by kernel_rfl
theorem c19 : (Tryz.f6.resultTypes.all (fun t => Tryz.prog.readableRec t && decide (t < Tryz.prog.types.size))) = true := by kernel_rfl
theorem c20 : (Rows.fnBoxesRow.ifacesOut == Tryz.f6.resultTypes.toList.any (Tryz.prog.ifacesRec ·)) = true := by kernel_rfl
theorem c21 : (Rows.fnBoxesRow.loopsOut == Tryz.f6.resultTypes.toList.any (Tryz.prog.loopsFrom ·)) = true := by kernel_rfl
theorem c22 : (Rows.fnBoxesRow.plainKeys == Tryz.prog.plainKeys) = true := by kernel_rfl
theorem c23 : (Rows.fnBoxesRow.shortTexts.isNone) = true := by kernel_rfl
theorem c26 : (Rows.fnBoxesRow.lifted == Tryz.prog.liftsFinal) = true := by rw [pfLift]; rfl
theorem c27 : (Tryz.prog.make == some Rows.fnBoxesRow.make) = true := by kernel_rfl
theorem c28 : (Rows.fnBoxesRow.kinds == (if Rows.fnBoxesRow.domain.isEmpty then [] else Tryz.f6.params.toList.map fun t => match Tryz.prog.underlying t with | some (.int k) => some k | _ => none)) = true := by kernel_rfl
theorem c29 : (Rows.fnBoxesRow.pinned == Rows.fnBoxesRow.pinnedBy) = true := by kernel_rfl
theorem c30 : (Rows.fnBoxesRow.veiled == (Tryz.f6.params.toList ++ Rows.fnBoxesSpec.plain.varTypes Tryz.prog ++ Tryz.f6.resultTypes.toList).any (Tryz.prog.veiledRec ·)) = true := by kernel_rfl
theorem c31 : (Rows.fnBoxesRow.veiledFits Tryz.prog Tryz.f6.params.toList (Tryz.f6.params.toList ++ Rows.fnBoxesSpec.plain.varTypes Tryz.prog ++ Tryz.f6.resultTypes.toList)) = true := by kernel_rfl
set_option maxRecDepth 100000 in
theorem closed : joinedFacts Tryz.prog 6 Tryz.f6 Rows.fnBoxesSpec Rows.fnBoxesRow = true := (c8 (c8 (c8 (c8 (c8 (c8 (c8 (c8 (c8 (c8 (c8 (c8 (c8 (c8 (c8 (c8 (c8 (c8 (c8 (c8 (c8 (c8 (c8 (c8 (c8 (c8 (c8 (c8 (c8 (c8 (c8 c0 pfLaid) pfMaps) c3) c4) c5) pfStops) c7) pfKnobs) c9) c10) c11) c12) c13) c14) c15) c16) c17) c18) c19) c20) c21) c22) c23) pfHeard) pfEnter) c26) c27) c28) c29) c30) c31)
theorem over : Rows.fnBoxesRow.holds Tryz.pinned (OpenSpec.ofChange Rows.fnBoxesSpec) :=
  OpenClaim.holds_of_wide 6 Tryz.f6 rfl rfl rfl rfl rfl rfl rfl ⟨rfl, rfl, rfl, rfl, rfl⟩ rfl rfl rfl rfl rfl (by kernel_rfl) Tryz.func6 closed
    (of_decide_eq_true (by kernel_rfl)) (by unfold Func.isWrapper; first | (rw [if_pos (by decide +kernel)]; kernel_rfl) | (rw [if_neg (by decide +kernel)]; exact ⟨rfl, rfl⟩))
    (fun os started H enc _ => lifted os started H enc)
/-- The statement. -/
theorem proved : Rows.FnBoxesSaid := over
end fnBoxes
end Go.Proofs.YtglpgohilfoecaaGreat
