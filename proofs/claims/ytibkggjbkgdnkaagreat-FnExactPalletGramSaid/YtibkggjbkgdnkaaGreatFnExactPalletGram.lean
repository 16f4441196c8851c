/-
  The program's PalletGram returns what the reference's returns, for all arguments: the call of the law returns true and turns nothing that was there.
-/
import Derived.Test.YtibkggjbkgdnkaaGreatRows
import Derived.Test.YtibkggjbkgdnkaaGreatPkcF
import Derived.Test.YtibkggjbkgdnkaaGreatPkcC
namespace Go.Proofs.YtibkggjbkgdnkaaGreat
open Go.ChangeShapes Go.WideShapes Go.ChangeAt Go.RowKit
set_option linter.unusedVariables false
namespace fnExactPalletGram
theorem own : ownKnob Tryz.prog.godebug = none := by kernel_rfl
theorem laidOut : laidOutB Tryz.prog = true := by kernel_rfl
set_option maxRecDepth 100000 in
theorem lifted (os : Os) (started : os.Started) (H : Type) (enc : TypeId × Value → H) :
    ReturnsInHanded {} Tryz.checked os 9 .any (Rows.fnExactPalletGramSpec.pre6 enc Tryz.prog Tryz.f9 Rows.fnExactPalletGramRow.domain false) (Rows.fnExactPalletGramSpec.post enc Tryz.prog Tryz.f9 false true false false) := by
  refine returnsInHanded_of_change (C := Tryz.checked) own started (by kernel_rfl) Tryz.func9
    (ChangeSpec.witness6 (enc := enc) (C := Tryz.checked) false ⟨#[], #[.agg #[.int .i64 0, .int .i64 0, .int .i64 0, .int .i64 0, .int .i64 0, .int .i64 0, .slice none 0 0, .slice none 0 0, .int .i64 0, .slice none 0 0], .agg #[.slice none 0 0, .slice none 0 0], .int .i64 0], []⟩ 8 (by kernel_rfl) (by kernel_rfl) (by kernel_rfl) (by kernel_rfl)) ?_
  intro W base args ds gs before hval0 hW hcnd _
  have hval : ∀ (j : Nat) t v, Tryz.f9.params[j]? = some t → args[j]? = some v → Value.okWide Tryz.prog W .any base t v := hval0
  have hW' := hW
  obtain ⟨p, q, hA0, hV, rfl, hfz, hnd⟩ := hW
  have hA : DataW.TrodAll enc Tryz.prog W 0 (fun _ => true) true Tryz.f9.params.toList args.toList ds p := hA0
  rw [Tryz.params9] at hA hval
  obtain ⟨v0, vs0, d0, ds0, p0, q0, hargs, rfl, rfl, h0, r0⟩ := trodAll_cons hA
  obtain ⟨v1, vs1, d1, ds1, p1, q1, rfl, rfl, rfl, h1, r1⟩ := trodAll_cons r0
  obtain ⟨v2, vs2, d2, ds2, p2, q2, rfl, rfl, rfl, h2, r2⟩ := trodAll_cons r1
  obtain ⟨rfl, rfl, rfl⟩ := trodAll_nil r2
  obtain rfl : args = #[v0, v1, v2] := by cases args; simp_all
  obtain ⟨rfl, rfl⟩ := trodVars_none hV
  have k0 := h0
  have lt0 : ∀ x ∈ p0, x.block < W.heap.size := by obtain ⟨m, hm⟩ := k0; exact DataW.trod_lt m _ _ _ hm
  have k1 := h1
  have lt1 : ∀ x ∈ p1, x.block < W.heap.size := by obtain ⟨m, hm⟩ := k1; exact DataW.trod_lt m _ _ _ hm
  have k2 := h2
  have lt2 : ∀ x ∈ p2, x.block < W.heap.size := by obtain ⟨m, hm⟩ := k2; exact DataW.trod_lt m _ _ _ hm
  obtain ⟨cs0, fl0, rfl, ht0⟩ := open_val Tryz.underlying28 (hval 0 28 v0 rfl rfl) h0
  obtain ⟨way0, pa0, pb0, pc0, pd0, cl0, pv0, tv0, ms0, iv0, rfl, ⟨_, _, ha0⟩, ⟨_, _, hb0⟩, ⟨_, _, hc0⟩⟩ := flat_req (tp := 23) Tryz.underlying28 (by kernel_rfl) (by kernel_rfl) Tryz.underlying3 (by kernel_rfl) ht0
  obtain ⟨ps0, hps0⟩ := open_rd PairM.cells (s := 2) Tryz.underlying24 (by kernel_rfl) (by omega) (fun n cs y hy => by obtain ⟨a, b, rfl⟩ := flat_ints2 (by kernel_rfl) hy; exact ⟨⟨a, b⟩, rfl⟩) (fun b => ⟨rfl, by simp [PairM.cells, Value.oneCell']⟩) ha0
  obtain ⟨ty0, hty0⟩ := open_rd TypeM.cells (s := 7) Tryz.underlying25 (by kernel_rfl) (by omega) (fun n cs y hy => by obtain ⟨a, b, c, d, e, f, g, rfl⟩ := flat_ints7 (by kernel_rfl) hy; exact ⟨⟨a, b, c, d, e, f, g⟩, rfl⟩) (fun b => ⟨rfl, by simp [TypeM.cells, Value.oneCell']⟩) hb0
  obtain ⟨it0, hit0⟩ := open_rd ItemM.cells (s := 7) Tryz.underlying26 (by kernel_rfl) (by omega) (fun n cs y hy => by obtain ⟨a, b, c, d, e, f, g, rfl⟩ := flat_ints7 (by kernel_rfl) hy; exact ⟨⟨a, b, c, d, e, f, g⟩, rfl⟩) (fun b => ⟨rfl, by simp [ItemM.cells, Value.oneCell']⟩) hc0
  obtain ⟨cs1, fl1, rfl, ht1⟩ := open_val Tryz.underlying58 (hval 1 58 v1 rfl rfl) h1
  obtain ⟨xa1, xb1, _, _, _, _, rfl, ha1, hb1⟩ := flat_two Tryz.underlying58 (by kernel_rfl) (by kernel_rfl) rfl ht1
  obtain ⟨x1, hx1, hs1⟩ := open_rdQ CartonM.cells (fun b => Rd W b.2 1 (b.1.l.map icell)) (s := 3) Tryz.underlying55 (by kernel_rfl) (by omega) (fun n cs y hy => flat_carton Tryz.underlying170 (by kernel_rfl) (by kernel_rfl) rfl Tryz.underlying44 (by kernel_rfl) Tryz.underlying3 Tryz.underlying3 hy) (fun b hb => ⟨rfl, fun u hu => List.all_eq_true.1 (one_cons rfl (one_cons rfl (one_cons (rd_one hb) rfl))) u hu⟩) ha1
  obtain ⟨y1, hy1⟩ := open_rd SpotM.cells (s := 4) Tryz.underlying56 (by kernel_rfl) (by omega) (fun n cs y hy => by obtain ⟨a, b, c, d, rfl⟩ := flat_ints4 (by kernel_rfl) hy; exact ⟨⟨a, b, c, d⟩, rfl⟩) (fun b => ⟨rfl, by simp [SpotM.cells, Value.oneCell']⟩) hb1
  obtain ⟨x2, rfl, rfl, rfl, wx2⟩ := open_int Tryz.underlying3 (hval 2 3 v2 rfl rfl) h2
  clear hA0 hval0
  refine Calls.mono (fnExactPalletGram_any (⟨way0, ⟨pa0, pb0, pc0, pd0⟩, cl0, ps0, ty0, ms0, it0⟩ : ReqM) (RqRd.mk hps0 hty0 hit0) hx1 hs1 hy1 x2 (w := W)) fun e W' ⟨he, hh⟩ => ?_
  subst he
  have bel := hh.below
  exact ⟨_, rfl, _, _, _, [], _, [], hW', trodAll_mk1 (shut_bool Tryz.underlying4 _), (trodAll_cons_mk (Below.trod laidOut (by kernel_rfl) (of_decide_eq_true (by kernel_rfl)) k0 bel lt0) (trodAll_cons_mk (Below.trod laidOut (by kernel_rfl) (of_decide_eq_true (by kernel_rfl)) k1 bel lt1) (trodAll_cons_mk (Below.trod laidOut (by kernel_rfl) (of_decide_eq_true (by kernel_rfl)) k2 bel lt2) trodAll_mk0))), rfl, bel.frame _, fun h => by cases h⟩
theorem c0 : (Rows.fnExactPalletGramRow.wf (OpenSpec.ofChange Rows.fnExactPalletGramSpec)) = true := by kernel_rfl
theorem c3 : (Tryz.f9.params.all (Tryz.prog.readableRec ·)) = true := by kernel_rfl
theorem c4 : (namedTie Tryz.prog Rows.fnExactPalletGramRow.named Rows.fnExactPalletGramSpec.vars) = true := by kernel_rfl
theorem c5 : (Rows.fnExactPalletGramRow.stops == []) = true := by kernel_rfl
theorem c7 : (Rows.fnExactPalletGramRow.knobs == []) = true := by kernel_rfl
theorem c9 : (Rows.fnExactPalletGramRow.inPlace == Tryz.prog.inPlace 9) = true := by kernel_rfl
theorem c10 : (Rows.fnExactPalletGramRow.unfollowed == Tryz.prog.unfollowed 9) = true := by kernel_rfl
theorem c11 : (Rows.fnExactPalletGramRow.recurses == Tryz.prog.recurses 9) = true := by kernel_rfl
theorem c12 : (Rows.fnExactPalletGramRow.named == Tryz.prog.varsNamed 9) = true := by kernel_rfl
theorem c13 : (Rows.fnExactPalletGramRow.maps == (Tryz.f9.params.toList ++ Rows.fnExactPalletGramSpec.plain.varTypes Tryz.prog).any (Tryz.prog.mapsRec ·)) = true := by kernel_rfl
theorem c14 : (Rows.fnExactPalletGramRow.ifaces == (Tryz.f9.params.toList ++ Rows.fnExactPalletGramSpec.plain.varTypes Tryz.prog).any (Tryz.prog.ifacesRec ·)) = true := by kernel_rfl
theorem c15 : (Rows.fnExactPalletGramRow.mapsOut == Tryz.prog.mapsAmong Tryz.f9.resultTypes.toList) = true := by kernel_rfl
theorem c16 : (Rows.fnExactPalletGramRow.loops == (Tryz.f9.params.toList ++ Rows.fnExactPalletGramSpec.plain.varTypes Tryz.prog).any (Tryz.prog.loopsFrom ·)) = true := by kernel_rfl
theorem c17 : (Rows.fnExactPalletGramRow.wideKeys == (Tryz.f9.params.toList ++ Rows.fnExactPalletGramSpec.plain.varTypes Tryz.prog ++ Tryz.f9.resultTypes.toList).any (Tryz.prog.wideKeysFrom ·)) = true := by kernel_rfl
theorem c18 : (Rows.fnExactPalletGramSpec.vars.all (Tryz.prog.varReadable ·)) = true := by kernel_rfl
theorem c19 : (Tryz.f9.resultTypes.all (fun t => Tryz.prog.readableRec t && decide (t < Tryz.prog.types.size))) = true := by kernel_rfl
theorem c20 : (Rows.fnExactPalletGramRow.ifacesOut == Tryz.f9.resultTypes.toList.any (Tryz.prog.ifacesRec ·)) = true := by kernel_rfl
theorem c21 : (Rows.fnExactPalletGramRow.loopsOut == Tryz.f9.resultTypes.toList.any (Tryz.prog.loopsFrom ·)) = true := by kernel_rfl
theorem c22 : (Rows.fnExactPalletGramRow.plainKeys == Tryz.prog.plainKeys) = true := by kernel_rfl
theorem c23 : (Rows.fnExactPalletGramRow.shortTexts.isNone) = true := by kernel_rfl
theorem c26 : (Rows.fnExactPalletGramRow.lifted == Tryz.prog.liftsFinal) = true := by rw [pfLift]; rfl
theorem c27 : (Tryz.prog.make == some Rows.fnExactPalletGramRow.make) = true := by kernel_rfl
theorem c28 : (Rows.fnExactPalletGramRow.kinds == (if Rows.fnExactPalletGramRow.domain.isEmpty then [] else Tryz.f9.params.toList.map fun t => match Tryz.prog.underlying t with | some (.int k) => some k | _ => none)) = true := by kernel_rfl
theorem c29 : (Rows.fnExactPalletGramRow.pinned == Rows.fnExactPalletGramRow.pinnedBy) = true := by kernel_rfl
theorem c30 : (Rows.fnExactPalletGramRow.veiled == (Tryz.f9.params.toList ++ Rows.fnExactPalletGramSpec.plain.varTypes Tryz.prog ++ Tryz.f9.resultTypes.toList).any (Tryz.prog.veiledRec ·)) = true := by kernel_rfl
theorem c31 : (Rows.fnExactPalletGramRow.veiledFits Tryz.prog Tryz.f9.params.toList (Tryz.f9.params.toList ++ Rows.fnExactPalletGramSpec.plain.varTypes Tryz.prog ++ Tryz.f9.resultTypes.toList)) = true := by kernel_rfl
set_option maxRecDepth 100000 in
theorem closed : joinedFacts Tryz.prog 9 Tryz.f9 Rows.fnExactPalletGramSpec Rows.fnExactPalletGramRow = true := (both (both (both (both (both (both (both (both (both (both (both (both (both (both (both (both (both (both (both (both (both (both (both (both (both (both (both (both (both (both (both c0 pfLaid) pfMaps) c3) c4) c5) pfStops) c7) pfKnobs) c9) c10) c11) c12) c13) c14) c15) c16) c17) c18) c19) c20) c21) c22) c23) pfHeard) pfEnter) c26) c27) c28) c29) c30) c31)
theorem over : Rows.fnExactPalletGramRow.holds Tryz.pinned (OpenSpec.ofChange Rows.fnExactPalletGramSpec) :=
  OpenClaim.holds_of_wide 9 Tryz.f9 rfl rfl rfl rfl rfl rfl rfl ⟨rfl, rfl, rfl, rfl, rfl⟩ rfl rfl rfl rfl rfl (by kernel_rfl) Tryz.func9 closed
    (of_decide_eq_true (by kernel_rfl)) (by unfold Func.isWrapper; first | (rw [if_pos (by decide +kernel)]; kernel_rfl) | (rw [if_neg (by decide +kernel)]; exact ⟨rfl, rfl⟩))
    (fun os started H enc _ => lifted os started H enc)
/-- The statement. -/
theorem proved : Rows.FnExactPalletGramSaid := over
end fnExactPalletGram
end Go.Proofs.YtibkggjbkgdnkaaGreat
