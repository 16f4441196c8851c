/-
  The program's OnPallet returns what the reference's returns, for all arguments: the call of the law returns true and turns nothing that was there.
-/
import Derived.Test.YtdbpdgpaacojgaaRows
import Derived.Test.YtdbpdgpaacojgaaOnP
import Derived.Test.YtdbpdgpaacojgaaOpen
namespace Go.Proofs.Ytdbpdgpaacojgaa
open Go.ChangeShapes Go.WideShapes Go.ChangeAt Go.RowKit
set_option linter.unusedVariables false
namespace fnExactOnPallet
theorem own : ownKnob Try.prog.godebug = none := by kernel_rfl
theorem laidOut : laidOutB Try.prog = true := by kernel_rfl
set_option maxRecDepth 100000 in
theorem lifted (os : Os) (started : os.Started) (H : Type) (enc : TypeId × Value → H) :
    ReturnsInHanded {} Try.checked os 6 .any (Rows.fnExactOnPalletSpec.pre6 enc Try.prog Try.f6 Rows.fnExactOnPalletRow.domain false) (Rows.fnExactOnPalletSpec.post enc Try.prog Try.f6 false true false false) := by
  refine returnsInHanded_of_change (C := Try.checked) own started (by kernel_rfl) Try.func6
    (ChangeSpec.witness6 (enc := enc) (C := Try.checked) false ⟨#[], #[.agg #[.slice none 0 0, .slice none 0 0], .int .i64 0], []⟩ 8 (by kernel_rfl) (by kernel_rfl) (by kernel_rfl) (by kernel_rfl)) ?_
  intro W base args ds gs before hval0 hW hcnd _
  have hval : ∀ (j : Nat) t v, Try.f6.params[j]? = some t → args[j]? = some v → Value.okWide Try.prog W .any base t v := hval0
  have hW' := hW
  obtain ⟨p, q, hA0, hV, rfl, hfz, hnd⟩ := hW
  have hA : DataW.TrodAll enc Try.prog W 0 (fun _ => true) true Try.f6.params.toList args.toList ds p := hA0
  rw [Try.params6] at hA hval
  obtain ⟨v0, vs0, d0, ds0, p0, q0, hargs, rfl, rfl, h0, r0⟩ := trodAll_cons hA
  obtain ⟨v1, vs1, d1, ds1, p1, q1, rfl, rfl, rfl, h1, r1⟩ := trodAll_cons r0
  obtain ⟨rfl, rfl, rfl⟩ := trodAll_nil r1
  obtain rfl : args = #[v0, v1] := by cases args; simp_all
  obtain ⟨rfl, rfl⟩ := trodVars_none hV
  have k0 := h0
  have lt0 : ∀ x ∈ p0, x.block < W.heap.size := by obtain ⟨m, hm⟩ := k0; exact DataW.trod_lt m _ _ _ hm
  have k1 := h1
  have lt1 : ∀ x ∈ p1, x.block < W.heap.size := by obtain ⟨m, hm⟩ := k1; exact DataW.trod_lt m _ _ _ hm
  obtain ⟨cs0, fl0, rfl, ht0⟩ := open_val Try.underlying39 (hval 0 39 v0 rfl rfl) h0
  obtain ⟨xa0, xb0, _, _, _, _, rfl, ha0, hb0⟩ := flat_two Try.underlying39 (by kernel_rfl) (by kernel_rfl) rfl ht0
  obtain ⟨x0, hx0, hs0⟩ := open_rdQ CartonM.cells (fun b => Rd W b.2 1 (b.1.l.map icell)) (s := 3) Try.underlying36 (by kernel_rfl) (by omega) (fun n cs y hy => flat_carton Try.underlying150 (by kernel_rfl) (by kernel_rfl) rfl Try.underlying48 (by kernel_rfl) Try.underlying3 Try.underlying3 hy) (fun b hb => ⟨rfl, fun u hu => List.all_eq_true.1 (one_cons rfl (one_cons rfl (one_cons (rd_one hb) rfl))) u hu⟩) ha0
  obtain ⟨y0, hy0⟩ := open_rd SpotM.cells (s := 4) Try.underlying37 (by kernel_rfl) (by omega) (fun n cs y hy => by obtain ⟨a, b, c, d, rfl⟩ := flat_ints4 (by kernel_rfl) hy; exact ⟨⟨a, b, c, d⟩, rfl⟩) (fun b => ⟨rfl, by simp [SpotM.cells, Value.oneCell']⟩) hb0
  obtain ⟨x1, rfl, rfl, rfl, wx1⟩ := open_int Try.underlying3 (hval 1 3 v1 rfl rfl) h1
  clear hA0 hval0
  refine Calls.mono (fnExactOnPallet_any hx0 hs0 hy0 x1 (w := W)) fun e W' ⟨he, hh⟩ => ?_
  subst he
  have bel := hh.below
  exact ⟨_, rfl, _, _, _, [], _, [], hW', trodAll_mk1 (shut_bool Try.underlying4 _), (trodAll_cons_mk (Below.trod laidOut (by kernel_rfl) (of_decide_eq_true (by kernel_rfl)) k0 bel lt0) (trodAll_cons_mk (Below.trod laidOut (by kernel_rfl) (of_decide_eq_true (by kernel_rfl)) k1 bel lt1) trodAll_mk0)), rfl, bel.frame _, fun h => by cases h⟩
theorem over : Rows.fnExactOnPalletRow.holds Try.pinned (OpenSpec.ofChange Rows.fnExactOnPalletSpec) :=
  OpenClaim.holds_of_wide 6 Try.f6 rfl rfl rfl rfl rfl rfl rfl ⟨rfl, rfl, rfl, rfl, rfl⟩ rfl rfl rfl rfl rfl (by kernel_rfl) Try.func6 (by kernel_rfl)
    (of_decide_eq_true (by kernel_rfl)) (by unfold Func.isWrapper; first | (rw [if_pos (by decide +kernel)]; kernel_rfl) | (rw [if_neg (by decide +kernel)]; exact ⟨rfl, rfl⟩))
    (fun os started H enc _ => lifted os started H enc)
/-- The statement. -/
theorem proved : Rows.FnExactOnPalletSaid := over
end fnExactOnPallet
end Go.Proofs.Ytdbpdgpaacojgaa
