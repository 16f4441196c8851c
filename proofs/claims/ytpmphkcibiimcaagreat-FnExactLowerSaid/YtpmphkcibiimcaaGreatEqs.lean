/-
  Structs of numbers held against each other.
-/
import Derived.Test.YtpmphkcibiimcaaGreatMarks
import Derived.ChangeKeysEq
import Derived.Laws.StructEq
namespace Go.Proofs.YtpmphkcibiimcaaGreat
open Go.RowKit
/-- A struct of n numbers. -/
def sintB (P : Program) (t : TypeId) (n : Nat) : Bool :=
  match P.underlying t with
  | some (.struct fs) => fs.size == n && !P.stoodInHeld t && !P.eqGuardType P.depth t && (fs.toList.zipIdx.all fun x => x.1.name != "_" && x.1.offset == x.2 && P.plainKey x.1.type && (match P.underlying x.1.type with | some (.int .i64) => true | _ => false))
  | _ => false
class TySI (P : Program) (t : TypeId) (n : outParam Nat) : Prop where
  h : sintB P t n = true
theorem run_eqInts {P : Program} {w : World} (d : Nat) (xs ys : List Int) : ∀ (fs : List Field) (j : Nat), (fs.zipIdx j).all (fun x => x.1.name != "_" && x.1.offset == x.2 && P.plainKey x.1.type && (match P.underlying x.1.type with | some (.int .i64) => true | _ => false)) = true → xs.length = j + fs.length → ys.length = j + fs.length →
    (Op.eqFields (d + 1) (xs.map (Value.int .i64)).toArray (ys.map (Value.int .i64)).toArray fs).run P w = .ok (decide (xs.drop j = ys.drop j)) w
  | [], j, _, hx, hy => by
    rw [List.drop_eq_nil_of_le (by simp at hx; omega), List.drop_eq_nil_of_le (by simp at hy; omega)]; rfl
  | f :: fs, j, hB, hx, hy => by
    simp only [List.zipIdx_cons, List.all_cons, Bool.and_eq_true, bne_iff_ne, ne_eq, beq_iff_eq] at hB
    obtain ⟨⟨⟨⟨h1, h2⟩, h3⟩, h4⟩, h5⟩ := hB
    have hxj : j < xs.length := by rw [hx]; simp
    have hyj : j < ys.length := by rw [hy]; simp
    have ih := run_eqInts (P := P) (w := w) d xs ys fs (j + 1) h5 (by rw [hx]; simp; omega) (by rw [hy]; simp; omega)
    have hu : P.underlying f.type = some (.int .i64) := by
      split at h4
      · assumption
      · cases h4
    have g1 : ((xs.map (Value.int .i64)).toArray)[f.offset]? = some (.int .i64 xs[j]) := by rw [h2]; simp [hxj]
    have g2 : ((ys.map (Value.int .i64)).toArray)[f.offset]? = some (.int .i64 ys[j]) := by rw [h2]; simp [hyj]
    simp only [Op.eqFields, if_pos h1, Sem.run_bind, run_part_plain w h3 g1, run_part_plain w h3 g2, Result.andThen_ok, run_equalIn_int w d f.type .i64 .i64 _ _ hu]
    rw [List.drop_eq_getElem_cons hxj, List.drop_eq_getElem_cons hyj]
    by_cases he : xs[j] = ys[j]
    · simp only [he, beq_self_eq_true, Bool.not_true, Bool.false_eq_true, if_false, ih]
      congr 1
      exact decide_eq_decide.2 ⟨fun h => by rw [h], fun h => (List.cons.inj h).2⟩
    · have hb : (xs[j] == ys[j]) = false := by simp [he]
      simp only [hb, Bool.not_false, if_true, Sem.run_pure]
      congr 1
      rw [decide_eq_false]; intro h; exact he (List.cons.inj h).1
theorem run_eqStruct {P : Program} {t : TypeId} {n : Nat} (hT : TySI P t n) {xs ys : List Int} (hx : xs.length = n) (hy : ys.length = n) (w : World) (d : Nat) :
    (Op.equalIn (d + 1 + 1) t (.agg (xs.map (Value.int .i64)).toArray) (.agg (ys.map (Value.int .i64)).toArray)).run P w = .ok (decide (xs = ys)) w ∧ P.eqGuardType P.depth t = false := by
  have h := hT.h
  unfold sintB at h
  split at h
  · rename_i fs hu
    simp only [Bool.and_eq_true, Bool.not_eq_true', beq_iff_eq] at h
    obtain ⟨⟨⟨h1, h2⟩, h3⟩, h4⟩ := h
    have hf : P.fieldsOf t = fs := by unfold Program.fieldsOf; rw [hu]
    refine ⟨?_, h3⟩
    rw [run_equalIn_struct w _ t _ _ (by rw [hf]; exact hu) h2, hf]
    have := run_eqInts (P := P) (w := w) d xs ys fs.toList 0 h4 (by simp [hx, h1]) (by simp [hy, h1])
    simpa using this
  · cases h
section
variable {P : Program} {n : Nat} {w0 : World} {fr : Fr} {H : List Ch} {x y : Operand} {t t' : TypeId} {m : Nat}
theorem rv_neqL [hT : TySI P t m] {xs ys : List Int} (hx : opv fr x = some (.agg (xs.map (Value.int .i64)).toArray)) (hy : opv fr y = some (.agg (ys.map (Value.int .i64)).toArray)) (h1 : xs.length = m) (h2 : ys.length = m) : RunsV P n w0 fr H (.binOp .neq t x y t') (.bool (decide (¬ xs = ys))) := fun a w hr _ _ _ _ _ _ => by
  obtain ⟨e1, e2⟩ := run_eqStruct hT h1 h2 w 9998
  simp only [execOp, hr.opv hx, hr.opv hy, Sem.run_bind, run_eqGuard_agg w _ _ _ _ _ _ e2, Result.andThen_ok, run_neq_struct, e1, Sem.run_pure, decide_not]
theorem rv_eqlL [hT : TySI P t m] {xs ys : List Int} (hx : opv fr x = some (.agg (xs.map (Value.int .i64)).toArray)) (hy : opv fr y = some (.agg (ys.map (Value.int .i64)).toArray)) (h1 : xs.length = m) (h2 : ys.length = m) : RunsV P n w0 fr H (.binOp .eql t x y t') (.bool (decide (xs = ys))) := fun a w hr _ _ _ _ _ _ => by
  obtain ⟨e1, e2⟩ := run_eqStruct hT h1 h2 w 9998
  simp only [execOp, hr.opv hx, hr.opv hy, Sem.run_bind, run_eqGuard_agg w _ _ _ _ _ _ e2, Result.andThen_ok, run_eql_struct, e1, Sem.run_pure]
theorem SpotM.ints (a b : SpotM) : ([a.p, a.x, a.y, a.z] = [b.p, b.x, b.y, b.z]) ↔ a = b := by cases a; cases b; simp
theorem BoxM.ints (a b : BoxM) : ([a.w, a.d, a.h, a.g] = [b.w, b.d, b.h, b.g]) ↔ a = b := by cases a; cases b; simp
theorem PalletM.ints (a b : PalletM) : ([a.w, a.d, a.h, a.g] = [b.w, b.d, b.h, b.g]) ↔ a = b := by cases a; cases b; simp
theorem rv_neqSpot [hT : TySI P t 4] {a b : SpotM} (hx : opv fr x = some (.agg a.cells.toArray)) (hy : opv fr y = some (.agg b.cells.toArray)) : RunsV P n w0 fr H (.binOp .neq t x y t') (.bool (decide (¬ a = b))) := by
  have := rv_neqL (P := P) (n := n) (w0 := w0) (H := H) (t := t) (t' := t') (xs := [a.p, a.x, a.y, a.z]) (ys := [b.p, b.x, b.y, b.z]) hx hy rfl rfl
  rwa [show decide (¬ [a.p, a.x, a.y, a.z] = [b.p, b.x, b.y, b.z]) = decide (¬ a = b) from decide_eq_decide.2 (not_congr (SpotM.ints a b))] at this
theorem rv_neqBox [hT : TySI P t 4] {a b : BoxM} (hx : opv fr x = some (.agg a.cells.toArray)) (hy : opv fr y = some (.agg b.cells.toArray)) : RunsV P n w0 fr H (.binOp .neq t x y t') (.bool (decide (¬ a = b))) := by
  have := rv_neqL (P := P) (n := n) (w0 := w0) (H := H) (t := t) (t' := t') (xs := [a.w, a.d, a.h, a.g]) (ys := [b.w, b.d, b.h, b.g]) hx hy rfl rfl
  rwa [show decide (¬ [a.w, a.d, a.h, a.g] = [b.w, b.d, b.h, b.g]) = decide (¬ a = b) from decide_eq_decide.2 (not_congr (BoxM.ints a b))] at this
theorem rv_neqBoxV [hT : TySI P t 4] {a b : BoxM} (hx : opv fr x = some a.val) (hy : opv fr y = some b.val) : RunsV P n w0 fr H (.binOp .neq t x y t') (.bool (decide (¬ a = b))) := rv_neqBox hx hy
theorem rv_eqlBox [hT : TySI P t 4] {a b : BoxM} (hx : opv fr x = some (.agg a.cells.toArray)) (hy : opv fr y = some (.agg b.cells.toArray)) : RunsV P n w0 fr H (.binOp .eql t x y t') (.bool (decide (a = b))) := by
  have := rv_eqlL (P := P) (n := n) (w0 := w0) (H := H) (t := t) (t' := t') (xs := [a.w, a.d, a.h, a.g]) (ys := [b.w, b.d, b.h, b.g]) hx hy rfl rfl
  rwa [show decide ([a.w, a.d, a.h, a.g] = [b.w, b.d, b.h, b.g]) = decide (a = b) from decide_eq_decide.2 (BoxM.ints a b)] at this
end
attribute [local irreducible] Go.wpList Go.Code.wp Go.Exit.then Go.Exit.inBlock Go.bodyPost Go.Calls pE pB G RunsV FnV Fn FnM
set_option maxRecDepth 100000
set_option maxHeartbeats 1000000
instance : TySI Tryz.prog 23 4 := ⟨by kernel_rfl⟩
instance : TySI Tryz.prog 34 4 := ⟨by kernel_rfl⟩
instance : TySI Tryz.prog 36 4 := ⟨by kernel_rfl⟩
instance : TySI Tryz.prog 66 7 := ⟨by kernel_rfl⟩
instance : TySI Tryz.prog 89 7 := ⟨by kernel_rfl⟩
instance : TySI Tryz.prog 94 2 := ⟨by kernel_rfl⟩
instance : TySI Tryz.prog 96 2 := ⟨by kernel_rfl⟩
instance : TySI Tryz.prog 98 7 := ⟨by kernel_rfl⟩
instance : TySI Tryz.prog 100 7 := ⟨by kernel_rfl⟩
instance : TySI Tryz.prog 107 2 := ⟨by kernel_rfl⟩
end Go.Proofs.YtpmphkcibiimcaaGreat
