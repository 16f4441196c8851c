/-
  The program's PlanText returns what the reference's returns, for all arguments: the call of the law returns true and turns nothing that was there, where the library's table of powers of ten is as the program's text lays it (the card ties that).
-/
import Derived.Test.YtnfokjlplbbbeaaDoorRows
import Derived.Test.YtnfokjlplbbbeaaDoorCards
import Derived.Test.YtnfokjlplbbbeaaDoorTie
import Derived.Test.YtnfokjlplbbbeaaDoorPkaB
namespace Go.Proofs.YtnfokjlplbbbeaaDoor
open Go.ChangeShapes Go.WideShapes Go.ChangeAt Go.RowKit
set_option linter.unusedVariables false
namespace fnExactPlanText
theorem own : ownKnob Tryd.prog.godebug = none := by kernel_rfl
theorem laidOut : laidOutB Tryd.prog = true := by kernel_rfl
theorem doorMet (os : Os) (args : Array Value) : laidMetH Tryd.prog Rows.fnExactPlanTextRow.laid ((World.doorLaid Tryd.prog 1000 os).forCall (fun _ _ => 0) ⟨#[], args, []⟩).memory :=
  laidMetH_of_parts (laidMet_of_run' 8 (by kernel_rfl) (by kernel_rfl)) (by kernel_rfl)
set_option maxRecDepth 100000 in
theorem lifted (os : Os) (started : os.Started) (H : Type) (enc : TypeId × Value → H) :
    ReturnsInHanded {} Tryd.checked os 3 .any (fun w args => (Rows.fnExactPlanTextSpec.pre enc Tryd.prog Tryd.f3 Rows.fnExactPlanTextRow.domain false w args ∧ laidMetH Tryd.prog Rows.fnExactPlanTextRow.laid w) ∧ sizedMet enc Tryd.prog Tryd.f3 (OpenSpec.ofChange Rows.fnExactPlanTextSpec) false w args) (Rows.fnExactPlanTextSpec.post enc Tryd.prog Tryd.f3 false true false false) := by
  refine returnsInHanded_of_change_and (C := Tryd.checked) (X := fun w _ => laidMetH Tryd.prog Rows.fnExactPlanTextRow.laid w) (fun _ _ _ hh h => h.of_heap hh) own started (by kernel_rfl) Tryd.func3
    (ChangeSpec.witness_shaped (enc := enc) (C := Tryd.checked) (os := os) (X := fun w _ => laidMetH Tryd.prog Rows.fnExactPlanTextRow.laid w) false (World.doorLaid Tryd.prog 1000 os) #[.agg #[.slice none 0 0, .slice none 0 0]] 8 rfl (World.shaped_of_RefB (by kernel_rfl) (by kernel_rfl)) (by kernel_rfl) (by kernel_rfl) (by kernel_rfl) (doorMet os _)) ?_
  intro W base args ds gs before hval0 hW _ _ hL0 _
  have hval : ∀ (j : Nat) t v, Tryd.f3.params[j]? = some t → args[j]? = some v → Value.okWide Tryd.prog W .any base t v := hval0
  have hL : laidMet Tryd.prog Rows.fnExactPlanTextRow.laid W := by rw [MakeChecks.laidMetH_plain _ _ _ (by kernel_rfl)] at hL0; exact hL0
  have tbI : TabI W := LaidF.tabI hL.tail.tail

  have hW' := hW
  obtain ⟨p, q, hA0, hV, rfl, hfz, hnd⟩ := hW
  have hA : DataW.TrodAll enc Tryd.prog W 0 (fun _ => true) true Tryd.f3.params.toList args.toList ds p := hA0
  rw [Tryd.params3] at hA hval
  obtain ⟨v0, vs0, d0, ds0, p0, q0, hargs, rfl, rfl, h0, r0⟩ := trodAll_cons hA
  obtain ⟨rfl, rfl, rfl⟩ := trodAll_nil r0
  obtain rfl : args = #[v0] := by cases args; simp_all
  obtain ⟨rfl, rfl⟩ := trodVars_none hV
  have k0 := h0
  have lt0 : ∀ x ∈ p0, x.block < W.heap.size := by obtain ⟨m, hm⟩ := k0; exact DataW.trod_lt m _ _ _ hm
  obtain ⟨cs0, fl0, rfl, ht0⟩ := open_val Tryd.underlying25 (hval 0 25 v0 rfl rfl) h0
  obtain ⟨xa0, xb0, _, _, _, _, rfl, ha0, hb0⟩ := flat_two Tryd.underlying25 (by kernel_rfl) (by kernel_rfl) rfl ht0
  obtain ⟨x0, hx0, hs0⟩ := open_rdQ CartonM.cells (fun b => Rd W b.2 1 (b.1.l.map icell)) (s := 3) Tryd.underlying22 (by kernel_rfl) (by omega) (fun n cs y hy => flat_carton Tryd.underlying70 (by kernel_rfl) (by kernel_rfl) rfl Tryd.underlying35 (by kernel_rfl) Tryd.underlying3 Tryd.underlying3 hy) (fun b hb => ⟨rfl, fun u hu => List.all_eq_true.1 (one_cons rfl (one_cons rfl (one_cons (rd_one hb) rfl))) u hu⟩) ha0
  obtain ⟨y0, hy0⟩ := open_rd SpotM.cells (s := 4) Tryd.underlying23 (by kernel_rfl) (by omega) (fun n cs y hy => by obtain ⟨a, b, c, d, rfl⟩ := flat_ints4 (by kernel_rfl) hy; exact ⟨⟨a, b, c, d⟩, rfl⟩) (fun b => ⟨rfl, by simp [SpotM.cells, Value.oneCell']⟩) hb0
  clear hA0 hval0
  refine Calls.mono (fnExactPlanText_any hx0 hs0 hy0 (w := W) (ht := tbI)) fun e W' ⟨he, hh⟩ => ?_
  subst he
  have bel := hh.below
  exact ⟨_, rfl, _, _, _, [], _, [], hW', trodAll_mk1 (shut_bool Tryd.underlying4 _), (trodAll_cons_mk (Below.trod laidOut (by kernel_rfl) (of_decide_eq_true (by kernel_rfl)) k0 bel lt0) trodAll_mk0), rfl, bel.frame _, fun h => by cases h⟩
theorem over : Rows.fnExactPlanTextRow.holds Tryd.pinned (OpenSpec.ofChange Rows.fnExactPlanTextSpec) :=
  OpenClaim.holds_of_wide 3 Tryd.f3 rfl rfl rfl rfl rfl rfl rfl ⟨rfl, rfl, rfl, rfl, rfl⟩ rfl rfl rfl rfl rfl (by kernel_rfl) Tryd.func3 (by kernel_rfl)
    (of_decide_eq_true (by kernel_rfl)) (by unfold Func.isWrapper; first | (rw [if_pos (by decide +kernel)]; kernel_rfl) | (rw [if_neg (by decide +kernel)]; exact ⟨rfl, rfl⟩))
    (fun os started H enc _ => lifted os started H enc)
/-- The statement: the row's variables are tied to the program's text. -/
theorem proved : Rows.FnExactPlanTextCardSaid :=
  Claim7.holds_tied_plain_at .later [] [.data, .data, .data] true (true, "bc1994d49e2e392e42bffc7a6920ebdaf0614fd6818c00b039880f26078fb6b2") true
    over (fun _ h => by cases h) (by kernel_rfl) (fun _ h => by cases h) fnExactPlanText_row_tie rfl ⟨rfl, rfl⟩ (by kernel_rfl) rfl
    (fun f fn hf hfn => by
      obtain rfl : f = 3 := Option.some.inj ((show Tryd.prog.funcNamed "loop.example/g00489/laws.FnExactPlanText" = some 3 by kernel_rfl).symm.trans hf) |>.symm
      obtain rfl : fn = Tryd.f3 := (Option.some.inj (Tryd.func3.symm.trans hfn)).symm
      exact ⟨by kernel_rfl, fun j t ht => by
        rw [Tryd.params3] at ht
        have hm : t ∈ [25] := by simpa using Array.mem_of_getElem? ht
        have hall : ([25].all fun u => !Tryd.prog.wantsStandIn u) = true := by kernel_rfl
        exact (show Tryd.prog.wantsStandIn t = false by simpa using List.all_eq_true.1 hall t hm)⟩)
    (by kernel_rfl)
end fnExactPlanText
end Go.Proofs.YtnfokjlplbbbeaaDoor
