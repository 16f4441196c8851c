/-
  Parts of slices.
-/
import Derived.Test.YtpmphkcibiimcaaGreatSwap
namespace Go.Proofs.YtpmphkcibiimcaaGreat
open Go.RowKit
def subV (v : Value) (s l h : Nat) : Value := match v with
  | .slice a _ c => sliced a l h c s
  | u => u
section
variable {P : Program} {n : Nat} {w0 : World} {fr : Fr} {H : List Ch}
theorem rv_sliceH {x y : Operand} {t e : TypeId} {s bs : Nat} {zs : List Value} [hT : TySlice P t e] [hI : TyInfo P e s zs bs] {v : Value} {es : List (List Value)} {k : IntKind} {h : Nat} (hx : opv fr x = some v) (hy : opv fr y = some (.int k (h : Int))) (hv : ∀ w, HeapOk w0 w H → Rd w v s es) (hh : h ≤ es.length) :
    RunsV P n w0 fr H (.slice t x none (some y) none) (subV v s 0 h) := fun a w hr hw _ _ _ _ _ => by
  obtain ⟨ad, cap, rfl, h1, h2, h3⟩ := (hv w hw).form
  obtain ⟨i, z, g1, g2, g3, g4, g5⟩ := hI.get
  have e1 : (h : Int) ≤ (cap : Int) := by omega
  have e2 : (0 : Int) ≤ (h : Int) := by omega
  simp [execOp, hr.opv hx, hr.opv hy, Instr.sliceAt, Instr.slice, run_underlying hT.h, Instr.sliceBounds, run_sliceBound, sizeOf, typeInfo, g1, g2, subV, sliced, e1, e2]
theorem rv_sliceL {x y : Operand} {t e : TypeId} {s bs : Nat} {zs : List Value} [hT : TySlice P t e] [hI : TyInfo P e s zs bs] {v : Value} {es : List (List Value)} {k : IntKind} {l : Nat} (hx : opv fr x = some v) (hy : opv fr y = some (.int k (l : Int))) (hv : ∀ w, HeapOk w0 w H → Rd w v s es) (hh : l ≤ es.length) :
    RunsV P n w0 fr H (.slice t x (some y) none none) (subV v s l es.length) := fun a w hr hw _ _ _ _ _ => by
  obtain ⟨ad, cap, rfl, h1, h2, h3⟩ := (hv w hw).form
  obtain ⟨i, z, g1, g2, g3, g4, g5⟩ := hI.get
  have e1 : (l : Int) ≤ (es.length : Int) := by omega
  have e2 : (0 : Int) ≤ (l : Int) := by omega
  have e3 : (es.length : Int) ≤ (cap : Int) := by omega
  simp [execOp, hr.opv hx, hr.opv hy, Instr.sliceAt, Instr.slice, run_underlying hT.h, Instr.sliceBounds, run_sliceBound, sizeOf, typeInfo, g1, g2, subV, sliced, e1, e2, e3]
theorem flatten_sub {s : Nat} {es : List (List Value)} (hl : ∀ e ∈ es, e.length = s) {l : Nat} {j : Nat} {u : Value} {m : Nat} (h : ((es.drop l).take m).flatten[j]? = some u) : es.flatten[l * s + j]? = some u := by
  by_cases hll : l ≤ es.length
  · have e1 : es.flatten = (es.take l).flatten ++ ((es.drop l).take m).flatten ++ ((es.drop l).drop m).flatten := by
      rw [← List.flatten_append, ← List.flatten_append, List.append_assoc, List.take_append_drop, List.take_append_drop]
    have e2 : (es.take l).flatten.length = l * s := by
      rw [flatten_len (s := s) (fun e he => hl e (List.mem_of_mem_take he)), List.length_take, Nat.min_eq_left hll]
    have hj : j < ((es.drop l).take m).flatten.length := by
      rcases Nat.lt_or_ge j ((es.drop l).take m).flatten.length with h1 | h1
      · exact h1
      · rw [List.getElem?_eq_none h1] at h; cases h
    rw [e1, List.append_assoc, List.getElem?_append_right (by omega), e2, show l * s + j - l * s = j from by omega, List.getElem?_append_left hj]
    exact h
  · rw [List.drop_eq_nil_of_le (by omega)] at h; simp at h
theorem Rd.sub {w : World} {v : Value} {s : Nat} {es : List (List Value)} (h : Rd w v s es) {l k : Nat} (h1 : l ≤ k) (h2 : k ≤ es.length) : Rd w (subV v s l k) s ((es.drop l).take (k - l)) := by
  obtain ⟨a, cap, rfl, q1, q2, q3⟩ := h.form
  have hlen : ((es.drop l).take (k - l)).length = k - l := by rw [List.length_take, List.length_drop]; omega
  refine ⟨⟨if cap = l then a else a.map (·.add (l * s)), cap - l, by rw [hlen]; rfl, by omega, by omega, fun hp => ?_⟩, fun e he => h.good e (List.mem_of_mem_drop (List.mem_of_mem_take he)), fun j u hj => ?_⟩
  · rw [hlen] at hp
    obtain ⟨b, o, rfl⟩ := q3 (by omega)
    rw [if_neg (by omega)]
    exact ⟨b, o + l * s, by simp [Addr.add_lit]⟩
  · have hp : 0 < k - l := by
      rcases Nat.eq_zero_or_pos (k - l) with h0 | h0
      · rw [h0] at hj; simp at hj
      · exact h0
    obtain ⟨b, o, rfl⟩ := q3 (by omega)
    have := h.cells _ _ (flatten_sub (fun e he => (h.good e he).1) hj)
    simp only [subV, sliced, if_neg (show ¬ cap = l from by omega), blkOf, offOf, Option.map_some, Addr.add_lit] at this ⊢
    rw [← this]; congr 2; omega
theorem Rd.subH {α : Type} {c : α → List Value} {w : World} {v : Value} {s : Nat} {l : List α} (h : Rd w v s (l.map c)) {k : Nat} (hk : k ≤ l.length) : Rd w (subV v s 0 k) s ((l.take k).map c) := by
  have := h.sub (Nat.zero_le k) (by simpa using hk)
  rwa [List.drop_zero, Nat.sub_zero, ← List.map_take] at this
theorem Rd.subL {α : Type} {c : α → List Value} {w : World} {v : Value} {s : Nat} {l : List α} (h : Rd w v s (l.map c)) {k : Nat} (hk : k ≤ l.length) : Rd w (subV v s k (l.map c).length) s ((l.drop k).map c) := by
  have := h.sub (l := k) (k := (l.map c).length) (by simpa using hk) (Nat.le_refl _)
  rwa [← List.map_drop, List.take_of_length_le (by simp)] at this
theorem rv_quoN {x y : Operand} {t t' : TypeId} {p : Nat} (hx : opv fr x = some (.int .i64 (p : Int))) (hy : opv fr y = some (.int .i64 2)) (h : p < 9223372036854775807) : RunsV P n w0 fr H (.binOp .quo t x y t') (.int .i64 ((p / 2 : Nat) : Int)) := by
  have := rv_quo (P := P) (n := n) (w0 := w0) (H := H) (t := t) (t' := t') hx hy (by omega)
  have e : (p : Int).tdiv 2 = ((p / 2 : Nat) : Int) := by
    rw [Int.tdiv_eq_ediv_of_nonneg (by omega)]; omega
  rwa [e, wrap64_id (by omega) (by omega)] at this
end
end Go.Proofs.YtpmphkcibiimcaaGreat
