/-
  Orders and cartons, opened.
-/
import Derived.Test.YtpmphkcibiimcaaGreatOpen
import Derived.Test.YtpmphkcibiimcaaGreatReqM
namespace Go.Proofs.YtpmphkcibiimcaaGreat
open Go.RowKit Go.ChangeShapes Go.WideShapes Go.Deep
section
variable {H : Type} {enc : TypeId × Value → H} {P : Program} {w : World} {base : Nat} {spare : Nat → Bool} {held : Bool}
theorem fields_at {t : TypeId} {fs : Array Field} {ts : List (TypeId × Nat × Nat)} {m : Nat} {fuel : Nat} {cs : List Value} {x : DataW H × List MemPlace} (hs : P.underlying t = some (.struct fs)) (hC : P.cellsOf t = m) (hT : fs.toList.map (fun f => (f.type, f.offset, P.cellsOf f.type)) = ts)
    (h : DataW.trod enc P w base spare held fuel t cs = some x) : cs.length = m ∧ ∀ (i : Nat) (τ : TypeId) (o k : Nat), ts[i]? = some (τ, o, k) → ∃ y n, DataW.trod enc P w base spare held n τ ((cs.drop o).take k) = some y := by
  obtain ⟨xs, n, _, _, hl, hxl, hg⟩ := DataW.trod_struct hs h
  subst hT
  refine ⟨hl.trans hC, fun i τ o k hi => ?_⟩
  rw [List.getElem?_map] at hi
  cases hf : fs.toList[i]? with
  | none => rw [hf] at hi; cases hi
  | some f =>
    rw [hf] at hi
    simp only [Option.map_some, Option.some.injEq, Prod.mk.injEq] at hi
    obtain ⟨rfl, rfl, rfl⟩ := hi
    have hf' : fs[i]? = some f := by simpa using hf
    have hix : i < xs.length := by rw [hxl]; exact (Array.getElem?_eq_some_iff.1 hf').1
    exact ⟨_, n, (hg i f hf').trans (List.getElem?_eq_getElem hix)⟩
theorem flat_req {t t3 tp tpv ttv tiv : TypeId} {fs : Array Field} {fuel : Nat} {cs : List Value} {x : DataW H × List MemPlace} (hs : P.underlying t = some (.struct fs)) (hC : P.cellsOf t = 10)
    (hT : fs.toList.map (fun f => (f.type, f.offset, P.cellsOf f.type)) = [(t3, 0, 1), (tp, 1, 4), (t3, 5, 1), (tpv, 6, 1), (ttv, 7, 1), (t3, 8, 1), (tiv, 9, 1)]) (h3 : P.underlying t3 = some (.int .i64)) (hp : intsB P tp 4 = true)
    (h : DataW.trod enc P w base spare held fuel t cs = some x) : ∃ (way : Int) (a b c d : Int) (classes : Int) (pv tv : Value) (master : Int) (iv : Value), cs = [.int .i64 way, .int .i64 a, .int .i64 b, .int .i64 c, .int .i64 d, .int .i64 classes, pv, tv, .int .i64 master, iv] ∧
      (∃ n y, DataW.trod enc P w base spare held n tpv [pv] = some y) ∧ (∃ n y, DataW.trod enc P w base spare held n ttv [tv] = some y) ∧ ∃ n y, DataW.trod enc P w base spare held n tiv [iv] = some y := by
  obtain ⟨hl, hg⟩ := fields_at hs hC hT h
  match cs, hl with
  | [c0, c1, c2, c3, c4, c5, c6, c7, c8, c9], _ =>
    obtain ⟨_, _, k0⟩ := hg 0 _ _ _ rfl
    obtain ⟨_, _, k1⟩ := hg 1 _ _ _ rfl
    obtain ⟨_, _, k2⟩ := hg 2 _ _ _ rfl
    obtain ⟨_, _, k3⟩ := hg 3 _ _ _ rfl
    obtain ⟨_, _, k4⟩ := hg 4 _ _ _ rfl
    obtain ⟨_, _, k5⟩ := hg 5 _ _ _ rfl
    obtain ⟨_, _, k6⟩ := hg 6 _ _ _ rfl
    simp only [List.drop_zero, List.drop_succ_cons, List.take_succ_cons, List.take_zero] at k0 k1 k2 k3 k4 k5 k6
    obtain ⟨z0, rfl, _⟩ := trod_int64 h3 k0
    obtain ⟨a, b, c, d, e⟩ := flat_ints4 hp k1
    simp only [List.cons.injEq, and_true] at e
    obtain ⟨rfl, rfl, rfl, rfl⟩ := e
    obtain ⟨z2, rfl, _⟩ := trod_int64 h3 k2
    obtain ⟨z5, rfl, _⟩ := trod_int64 h3 k5
    exact ⟨_, _, _, _, _, _, _, _, _, _, rfl, ⟨_, _, k3⟩, ⟨_, _, k4⟩, ⟨_, _, k6⟩⟩
end
end Go.Proofs.YtpmphkcibiimcaaGreat
