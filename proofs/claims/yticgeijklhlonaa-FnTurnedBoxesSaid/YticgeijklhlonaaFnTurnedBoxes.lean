/-
  The call of the law FnTurnedBoxes returns true, whatever it is handed, and turns nothing that was there.
-/
import Derived.Test.YticgeijklhlonaaRows
import Derived.Test.YticgeijklhlonaaLaws9
import Derived.Test.YticgeijklhlonaaOpen
namespace Go.Proofs.Yticgeijklhlonaa
open Go.ChangeShapes Go.WideShapes Go.ChangeAt Go.RowKit
set_option linter.unusedVariables false
namespace fnTurnedBoxes
theorem own : ownKnob Try.prog.godebug = none := by kernel_rfl
theorem laidOut : laidOutB Try.prog = true := by kernel_rfl
set_option maxRecDepth 100000 in
theorem lifted (os : Os) (started : os.Started) (H : Type) (enc : TypeId × Value → H) :
    ReturnsInHanded {} Try.checked os 12 .any (Rows.fnTurnedBoxesSpec.pre6 enc Try.prog Try.f12 Rows.fnTurnedBoxesRow.domain false) (Rows.fnTurnedBoxesSpec.post enc Try.prog Try.f12 false true false false) := by
  refine returnsInHanded_of_change (C := Try.checked) own started (by kernel_rfl) Try.func12
    (ChangeSpec.witness6 (enc := enc) (C := Try.checked) false ⟨#[], #[.slice none 0 0], []⟩ 8 (by kernel_rfl) (by kernel_rfl) (by kernel_rfl) (by kernel_rfl)) ?_
  intro W base args ds gs before hval0 hW hcnd _
  have hval : ∀ (j : Nat) t v, Try.f12.params[j]? = some t → args[j]? = some v → Value.okWide Try.prog W .any base t v := hval0
  have hW' := hW
  obtain ⟨p, q, hA0, hV, rfl, hfz, hnd⟩ := hW
  have hA : DataW.TrodAll enc Try.prog W 0 (fun _ => true) true Try.f12.params.toList args.toList ds p := hA0
  rw [Try.params12] at hA hval
  obtain ⟨v0, vs0, d0, ds0, p0, q0, hargs, rfl, rfl, h0, r0⟩ := trodAll_cons hA
  obtain ⟨rfl, rfl, rfl⟩ := trodAll_nil r0
  obtain rfl : args = #[v0] := by cases args; simp_all
  obtain ⟨rfl, rfl⟩ := trodVars_none hV
  have k0 := h0
  have lt0 : ∀ x ∈ p0, x.block < W.heap.size := by obtain ⟨m, hm⟩ := k0; exact DataW.trod_lt m _ _ _ hm
  obtain ⟨fl0, ht0⟩ := open_slv Try.underlying22 (hval 0 22 v0 rfl rfl) h0
  obtain ⟨x0, hx0, hq0⟩ := open_rdQ bcell (fun z => 0 ≤ z ∧ z ≤ 255) (s := 1) Try.underlying22 (by kernel_rfl) (by omega) (fun n cs y hy => by obtain ⟨z, h1, _, h3⟩ := DataW.trod_int Try.underlying5 hy; exact ⟨z, h1, byte_of h3⟩) (fun b _ => ⟨rfl, by simp [bcell, Value.oneCell']⟩) ht0
  clear hA0 hval0
  refine Calls.mono (fnTurnedBoxes_any hx0 hq0 (w := W)) fun e W' ⟨he, hh⟩ => ?_
  subst he
  have bel := hh.below
  exact ⟨_, rfl, _, _, _, [], _, [], hW', trodAll_mk1 (shut_bool Try.underlying4 _), (trodAll_cons_mk (Below.trod laidOut (by kernel_rfl) (of_decide_eq_true (by kernel_rfl)) k0 bel lt0) trodAll_mk0), rfl, bel.frame _, fun h => by cases h⟩
theorem over : Rows.fnTurnedBoxesRow.holds Try.pinned (OpenSpec.ofChange Rows.fnTurnedBoxesSpec) :=
  OpenClaim.holds_of_wide 12 Try.f12 rfl rfl rfl rfl rfl rfl rfl ⟨rfl, rfl, rfl, rfl, rfl⟩ rfl rfl rfl rfl rfl (by kernel_rfl) Try.func12 (by kernel_rfl)
    (of_decide_eq_true (by kernel_rfl)) (by unfold Func.isWrapper; first | (rw [if_pos (by decide +kernel)]; kernel_rfl) | (rw [if_neg (by decide +kernel)]; exact ⟨rfl, rfl⟩))
    (fun os started H enc _ => lifted os started H enc)
/-- The statement. -/
theorem proved : Rows.FnTurnedBoxesSaid := over
end fnTurnedBoxes
end Go.Proofs.Yticgeijklhlonaa
