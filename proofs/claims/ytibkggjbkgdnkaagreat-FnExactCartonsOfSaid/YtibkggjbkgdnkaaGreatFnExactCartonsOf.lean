/-
  The program's CartonsOf returns what the reference's returns, for all arguments: the call of the law returns true and turns nothing that was there.
-/
import Derived.Test.YtibkggjbkgdnkaaGreatRows
import Derived.Test.YtibkggjbkgdnkaaGreatPkdF
import Derived.Test.YtibkggjbkgdnkaaGreatPkdC
namespace Go.Proofs.YtibkggjbkgdnkaaGreat
open Go.ChangeShapes Go.WideShapes Go.ChangeAt Go.RowKit
set_option linter.unusedVariables false
namespace fnExactCartonsOf
theorem own : ownKnob Tryz.prog.godebug = none := by kernel_rfl
theorem laidOut : laidOutB Tryz.prog = true := by kernel_rfl
set_option maxRecDepth 100000 in
theorem lifted (os : Os) (started : os.Started) (H : Type) (enc : TypeId × Value → H) :
    ReturnsInHanded {} Tryz.checked os 11 .any (Rows.fnExactCartonsOfSpec.pre6 enc Tryz.prog Tryz.f11 Rows.fnExactCartonsOfRow.domain false) (Rows.fnExactCartonsOfSpec.post enc Tryz.prog Tryz.f11 false true false false) := by
  refine returnsInHanded_of_change (C := Tryz.checked) own started (by kernel_rfl) Tryz.func11
    (ChangeSpec.witness6 (enc := enc) (C := Tryz.checked) false ⟨#[], #[.agg #[.int .i64 0, .int .i64 0, .int .i64 0, .int .i64 0, .int .i64 0, .int .i64 0, .slice none 0 0, .slice none 0 0, .int .i64 0, .slice none 0 0]], []⟩ 8 (by kernel_rfl) (by kernel_rfl) (by kernel_rfl) (by kernel_rfl)) ?_
  intro W base args ds gs before hval0 hW hcnd _
  have hval : ∀ (j : Nat) t v, Tryz.f11.params[j]? = some t → args[j]? = some v → Value.okWide Tryz.prog W .any base t v := hval0
  have hW' := hW
  obtain ⟨p, q, hA0, hV, rfl, hfz, hnd⟩ := hW
  have hA : DataW.TrodAll enc Tryz.prog W 0 (fun _ => true) true Tryz.f11.params.toList args.toList ds p := hA0
  rw [Tryz.params11] at hA hval
  obtain ⟨v0, vs0, d0, ds0, p0, q0, hargs, rfl, rfl, h0, r0⟩ := trodAll_cons hA
  obtain ⟨rfl, rfl, rfl⟩ := trodAll_nil r0
  obtain rfl : args = #[v0] := by cases args; simp_all
  obtain ⟨rfl, rfl⟩ := trodVars_none hV
  have k0 := h0
  have lt0 : ∀ x ∈ p0, x.block < W.heap.size := by obtain ⟨m, hm⟩ := k0; exact DataW.trod_lt m _ _ _ hm
  obtain ⟨cs0, fl0, rfl, ht0⟩ := open_val Tryz.underlying28 (hval 0 28 v0 rfl rfl) h0
  obtain ⟨way0, pa0, pb0, pc0, pd0, cl0, pv0, tv0, ms0, iv0, rfl, ⟨_, _, ha0⟩, ⟨_, _, hb0⟩, ⟨_, _, hc0⟩⟩ := flat_req (tp := 23) Tryz.underlying28 (by kernel_rfl) (by kernel_rfl) Tryz.underlying3 (by kernel_rfl) ht0
  obtain ⟨ps0, hps0⟩ := open_rd PairM.cells (s := 2) Tryz.underlying24 (by kernel_rfl) (by omega) (fun n cs y hy => by obtain ⟨a, b, rfl⟩ := flat_ints2 (by kernel_rfl) hy; exact ⟨⟨a, b⟩, rfl⟩) (fun b => ⟨rfl, by simp [PairM.cells, Value.oneCell']⟩) ha0
  obtain ⟨ty0, hty0⟩ := open_rd TypeM.cells (s := 7) Tryz.underlying25 (by kernel_rfl) (by omega) (fun n cs y hy => by obtain ⟨a, b, c, d, e, f, g, rfl⟩ := flat_ints7 (by kernel_rfl) hy; exact ⟨⟨a, b, c, d, e, f, g⟩, rfl⟩) (fun b => ⟨rfl, by simp [TypeM.cells, Value.oneCell']⟩) hb0
  obtain ⟨it0, hit0⟩ := open_rd ItemM.cells (s := 7) Tryz.underlying26 (by kernel_rfl) (by omega) (fun n cs y hy => by obtain ⟨a, b, c, d, e, f, g, rfl⟩ := flat_ints7 (by kernel_rfl) hy; exact ⟨⟨a, b, c, d, e, f, g⟩, rfl⟩) (fun b => ⟨rfl, by simp [ItemM.cells, Value.oneCell']⟩) hc0
  clear hA0 hval0
  refine Calls.mono (fnExactCartonsOf_any (⟨way0, ⟨pa0, pb0, pc0, pd0⟩, cl0, ps0, ty0, ms0, it0⟩ : ReqM) (RqRd.mk hps0 hty0 hit0) (w := W)) fun e W' ⟨he, hh⟩ => ?_
  subst he
  have bel := hh.below
  exact ⟨_, rfl, _, _, _, [], _, [], hW', trodAll_mk1 (shut_bool Tryz.underlying4 _), (trodAll_cons_mk (Below.trod laidOut (by kernel_rfl) (of_decide_eq_true (by kernel_rfl)) k0 bel lt0) trodAll_mk0), rfl, bel.frame _, fun h => by cases h⟩
theorem c0 : (Rows.fnExactCartonsOfRow.wf (OpenSpec.ofChange Rows.fnExactCartonsOfSpec)) = true := by kernel_rfl
theorem c3 : (Tryz.f11.params.all (Tryz.prog.readableRec ·)) = true := by kernel_rfl
theorem c4 : (namedTie Tryz.prog Rows.fnExactCartonsOfRow.named Rows.fnExactCartonsOfSpec.vars) = true := by kernel_rfl
theorem c5 : (Rows.fnExactCartonsOfRow.stops == []) = true := by kernel_rfl
theorem c7 : (Rows.fnExactCartonsOfRow.knobs == []) = true := by kernel_rfl
theorem c9 : (Rows.fnExactCartonsOfRow.inPlace == Tryz.prog.inPlace 11) = true := by kernel_rfl
theorem c10 : (Rows.fnExactCartonsOfRow.unfollowed == Tryz.prog.unfollowed 11) = true := by kernel_rfl
theorem c11 : (Rows.fnExactCartonsOfRow.recurses == Tryz.prog.recurses 11) = true := by kernel_rfl
theorem c12 : (Rows.fnExactCartonsOfRow.named == Tryz.prog.varsNamed 11) = true := by kernel_rfl
theorem c13 : (Rows.fnExactCartonsOfRow.maps == (Tryz.f11.params.toList ++ Rows.fnExactCartonsOfSpec.plain.varTypes Tryz.prog).any (Tryz.prog.mapsRec ·)) = true := by kernel_rfl
theorem c14 : (Rows.fnExactCartonsOfRow.ifaces == (Tryz.f11.params.toList ++ Rows.fnExactCartonsOfSpec.plain.varTypes Tryz.prog).any (Tryz.prog.ifacesRec ·)) = true := by kernel_rfl
theorem c15 : (Rows.fnExactCartonsOfRow.mapsOut == Tryz.prog.mapsAmong Tryz.f11.resultTypes.toList) = true := by kernel_rfl
theorem c16 : (Rows.fnExactCartonsOfRow.loops == (Tryz.f11.params.toList ++ Rows.fnExactCartonsOfSpec.plain.varTypes Tryz.prog).any (Tryz.prog.loopsFrom ·)) = true := by kernel_rfl
theorem c17 : (Rows.fnExactCartonsOfRow.wideKeys == (Tryz.f11.params.toList ++ Rows.fnExactCartonsOfSpec.plain.varTypes Tryz.prog ++ Tryz.f11.resultTypes.toList).any (Tryz.prog.wideKeysFrom ·)) = true := by kernel_rfl
theorem c18 : (Rows.fnExactCartonsOfSpec.vars.all (Tryz.prog.varReadable ·)) = true := by kernel_rfl
theorem c19 : (Tryz.f11.resultTypes.all (fun t => Tryz.prog.readableRec t && decide (t < Tryz.prog.types.size))) = true := by kernel_rfl
theorem c20 : (Rows.fnExactCartonsOfRow.ifacesOut == Tryz.f11.resultTypes.toList.any (Tryz.prog.ifacesRec ·)) = true := by kernel_rfl
theorem c21 : (Rows.fnExactCartonsOfRow.loopsOut == Tryz.f11.resultTypes.toList.any (Tryz.prog.loopsFrom ·)) = true := by kernel_rfl
theorem c22 : (Rows.fnExactCartonsOfRow.plainKeys == Tryz.prog.plainKeys) = true := by kernel_rfl
theorem c23 : (Rows.fnExactCartonsOfRow.shortTexts.isNone) = true := by kernel_rfl
theorem c26 : (Rows.fnExactCartonsOfRow.lifted == Tryz.prog.liftsFinal) = true := by rw [pfLift]; rfl
theorem c27 : (Tryz.prog.make == some Rows.fnExactCartonsOfRow.make) = true := by kernel_rfl
theorem c28 : (Rows.fnExactCartonsOfRow.kinds == (if Rows.fnExactCartonsOfRow.domain.isEmpty then [] else Tryz.f11.params.toList.map fun t => match Tryz.prog.underlying t with | some (.int k) => some k | _ => none)) = true := by kernel_rfl
theorem c29 : (Rows.fnExactCartonsOfRow.pinned == Rows.fnExactCartonsOfRow.pinnedBy) = true := by kernel_rfl
theorem c30 : (Rows.fnExactCartonsOfRow.veiled == (Tryz.f11.params.toList ++ Rows.fnExactCartonsOfSpec.plain.varTypes Tryz.prog ++ Tryz.f11.resultTypes.toList).any (Tryz.prog.veiledRec ·)) = true := by kernel_rfl
theorem c31 : (Rows.fnExactCartonsOfRow.veiledFits Tryz.prog Tryz.f11.params.toList (Tryz.f11.params.toList ++ Rows.fnExactCartonsOfSpec.plain.varTypes Tryz.prog ++ Tryz.f11.resultTypes.toList)) = true := by kernel_rfl
set_option maxRecDepth 100000 in
theorem closed : joinedFacts Tryz.prog 11 Tryz.f11 Rows.fnExactCartonsOfSpec Rows.fnExactCartonsOfRow = true := (both (both (both (both (both (both (both (both (both (both (both (both (both (both (both (both (both (both (both (both (both (both (both (both (both (both (both (both (both (both (both c0 pfLaid) pfMaps) c3) c4) c5) pfStops) c7) pfKnobs) c9) c10) c11) c12) c13) c14) c15) c16) c17) c18) c19) c20) c21) c22) c23) pfHeard) pfEnter) c26) c27) c28) c29) c30) c31)
theorem over : Rows.fnExactCartonsOfRow.holds Tryz.pinned (OpenSpec.ofChange Rows.fnExactCartonsOfSpec) :=
  OpenClaim.holds_of_wide 11 Tryz.f11 rfl rfl rfl rfl rfl rfl rfl ⟨rfl, rfl, rfl, rfl, rfl⟩ rfl rfl rfl rfl rfl (by kernel_rfl) Tryz.func11 closed
    (of_decide_eq_true (by kernel_rfl)) (by unfold Func.isWrapper; first | (rw [if_pos (by decide +kernel)]; kernel_rfl) | (rw [if_neg (by decide +kernel)]; exact ⟨rfl, rfl⟩))
    (fun os started H enc _ => lifted os started H enc)
/-- The statement. -/
theorem proved : Rows.FnExactCartonsOfSaid := over
end fnExactCartonsOf
end Go.Proofs.YtibkggjbkgdnkaaGreat
